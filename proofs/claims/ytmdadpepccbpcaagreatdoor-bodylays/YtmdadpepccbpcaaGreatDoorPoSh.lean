import Derived.Test.YtmdadpepccbpcaaGreatDoorPoA
import Derived.Test.YtmdadpepccbpcaaGreatDoorAvE
namespace Go.Av
set_option linter.unusedSimpArgs false
set_option linter.unusedVariables false
section
abbrev OA:=Option AV
set_option linter.unusedSimpArgs false
set_option linter.unusedVariables false
noncomputable section
def qDC (s4:Int):OA:=some (dc s4)
def qLF (_n:Nat) (b0:LU) (c1:UInt8):OA :=
 qDC (z141 b0 c1)
def qxf (s2:Bool):OA:=some (dg s2)
def qDD (_n:Nat) (bufLen0:Int):OA :=
 qxf (decide ((8:Int) < bufLen0))
def qhX (as2:List Bool) (ok3:Bool):OA:=some (.tup [(.dat (.arr 256 .bool) as2 none),(dg ok3)])
def qdn (ret:List Bool→Bool→OA) (k0:List Bool→OA) (next:LU→List Bool→Int→OA) (_n:Nat) (chars0:LU) (as2:List Bool) (i4:Int):OA :=
 bif (decide (i4 < (chars0.length:Int))) then
 bif ((decide (0≤i4))&&(decide (i4 < chars0.length))) then
 bif (decide ((128:UInt8)≤(chars0.getD i4.toNat (0:UInt8)))) then
 ret as2 false
 else
 bif ((decide (0≤((UInt8.toNat (chars0.getD i4.toNat (0:UInt8)):Nat):Int)))&&(decide (((UInt8.toNat (chars0.getD i4.toNat (0:UInt8)):Nat):Int) < (256:Nat)))) then
 next chars0 (List.set as2 ((UInt8.toNat (chars0.getD i4.toNat (0:UInt8)):Nat):Int).toNat true) (IntKind.wrap .i64 (i4+1))
 else none
 else none
 else
 k0 as2
def qeF (ret:List Bool→Bool→OA) (k0:List Bool→OA):Nat→LU→List Bool→Int→OA
 | 0=>fun _ _ _=>none
 | n+1=>qdn ret k0 (qeF ret k0 n) n
def qeG (_n:Nat) (as2:List Bool):OA :=
 qhX as2 true
def qxg (n:Nat) (chars0:LU):OA :=
 qeF qhX (qeG n) n chars0 (List.replicate 256 false) (0:Int)
def qxh (s4:Bool):OA:=some (dg s4)
def qxi (_n:Nat) (as0:List Bool) (c1:UInt8):OA :=
 bif ((decide (0≤((UInt8.toNat c1:Nat):Int)))&&(decide (((UInt8.toNat c1:Nat):Int) < (256:Nat)))) then
 qxh (as0.getD ((UInt8.toNat c1:Nat):Int).toNat false)
 else none
def qH (s4:Int):OA:=some (dc s4)
def qdo (m0:Int) (ret:Int→OA) (k0:OA) (next:LU→Nat→OA) (_n:Nat) (s28:LU) (s28p:Nat):OA :=
 bif (decide (s28p < s28.length)) then
 bif (decide (s28p < s28.length)) then
 bif ((decL s28 s28p).1==(65533:Int)) then
 ret (0:Int)
 else
 next s28 (bif (decide (s28p < s28.length)) then s28p+(decL s28 s28p).2 else s28p)
 else none
 else
 k0
def qeH (m0:Int) (ret:Int→OA) (k0:OA):Nat→LU→Nat→OA
 | 0=>fun _ _=>none
 | n+1=>(qdo m0) ret k0 ((qeH m0) ret k0 n) n
def qgL (m0:Int) (_n:Nat):OA :=
 qH (-1:Int)
def qca (m0:Int) (ret:Int→OA) (k2:OA) (next:List Bool→LU→Int→Int→OA) (_n:Nat) (as7:List Bool) (s60:LU) (s61:Int) (s62:Int):OA :=
 bif (decide (s62 < s61)) then
 bif ((decide (0≤s62))&&(decide (s62 < s60.length))) then
 bif (z168 as7 (s60.getD s62.toNat (0:UInt8))) then
 ret s62
 else
 next as7 s60 s61 (IntKind.wrap .i64 (s62+1))
 else none
 else
 k2
def qcq (m0:Int) (ret:Int→OA) (k2:OA):Nat→List Bool→LU→Int→Int→OA
 | 0=>fun _ _ _ _=>none
 | n+1=>(qca m0) ret k2 ((qcq m0) ret k2 n) n
def qcR (m0:Int) (_n:Nat):OA :=
 qH (-1:Int)
def qcb (m0:Int) (ret:Int→OA) (k6:LU→LU→Int→Int→OA) (next:LU→LU→Int→Int→Int→LU→Nat→OA) (_n:Nat) (s0:LU) (chars1:LU) (width11:Int) (i12:Int) (r13:Int) (s121:LU) (s121p:Nat):OA :=
 bif (decide (s121p < s121.length)) then
 bif (decide (s121p < s121.length)) then
 bif (r13==(decL s121 s121p).1) then
 ret i12
 else
 next s0 chars1 width11 i12 r13 s121 (bif (decide (s121p < s121.length)) then s121p+(decL s121 s121p).2 else s121p)
 else none
 else
 k6 s0 chars1 width11 i12
def qbx (m0:Int) (ret:Int→OA) (k6:LU→LU→Int→Int→OA):Nat→LU→LU→Int→Int→Int→LU→Nat→OA
 | 0=>fun _ _ _ _ _ _ _=>none
 | n+1=>(qcb m0) ret k6 ((qbx m0) ret k6 n) n
def qcc (m0:Int) (_ret:Int→OA) (_k4:OA) (next:LU→LU→Int→OA) (_n:Nat) (s0:LU) (chars1:LU) (width11:Int) (i12:Int):OA :=
 next s0 chars1 (IntKind.wrap .i64 (i12+width11))
def qr (s0:LU) (i12:Int):=(z169 (List.drop i12.toNat (List.take (s0.length:Int).toNat s0)))
def qcS (m0:Int) (ret:Int→OA) (k4:OA) (next:LU→LU→Int→OA) (n:Nat) (s0:LU) (chars1:LU) (i12:Int):OA :=
 bif (decide (i12 < (s0.length:Int))) then bif ((decide (0≤i12))&&(decide (i12 < s0.length))) then bif (decide ((IntKind.wrap .i32 ((UInt8.toNat (s0.getD i12.toNat (0:UInt8)):Nat):Int)) < (128:Int))) then bif ((decide (0≤i12))&&(decide (i12 < s0.length))) then bif (decide (0≤(z164 chars1 (s0.getD i12.toNat (0:UInt8))))) then ret i12 else next s0 chars1 (IntKind.wrap .i64 (i12+1)) else none else bif (((decide (0≤i12))&&(decide (i12≤(s0.length:Int))))&&(decide ((s0.length:Int)≤(s0.length:Int)))) then bif ((qmm (List.drop i12.toNat (List.take (s0.length:Int).toNat s0)))&&true) then bif (((qr s0 i12).1) != (65533:Int)) then bif ((chars1.length:Int)==((qr s0 i12).2)) then bif (chars1==(Utf8.encode ((qr s0 i12).1)).data.toList) then ret i12 else next s0 chars1 (IntKind.wrap .i64 (i12+((qr s0 i12).2))) else bif (decide (((qr s0 i12).2)≤m0)) then bif ((qml m0 chars1 (Utf8.encode ((qr s0 i12).1)).data.toList)&&true) then bif (decide (0≤(z170 chars1 (Utf8.encode ((qr s0 i12).1)).data.toList))) then ret i12 else next s0 chars1 (IntKind.wrap .i64 (i12+((qr s0 i12).2))) else none else (qbx m0) ret ((qcc m0) ret k4 next n) n s0 chars1 ((qr s0 i12).2) i12 ((qr s0 i12).1) chars1 0 else (qbx m0) ret ((qcc m0) ret k4 next n) n s0 chars1 ((qr s0 i12).2) i12 ((qr s0 i12).1) chars1 0 else none else none else none else k4
def qby (m0:Int) (ret:Int→OA) (k4:OA):Nat→LU→LU→Int→OA
 | 0=>fun _ _ _=>none
 | n+1=>(qcS m0) ret k4 ((qby m0) ret k4 n) n
def qcd (m0:Int) (_n:Nat):OA :=
 qH (-1:Int)
def qcT (chars1:LU):=(IntKind.wrap .i32 ((UInt8.toNat (chars1.getD (0:Int).toNat (0:UInt8)):Nat):Int))
def qqV (m0:Int) (n:Nat) (s0:LU) (chars1:LU):OA :=
 bif (chars1==([]:LU)) then qH (-1:Int) else bif ((s0.length:Int)==(1:Int)) then bif ((decide (0≤(0:Int)))&&(decide ((0:Int) < s0.length))) then bif (decide ((128:Int)≤(IntKind.wrap .i32 ((UInt8.toNat (s0.getD (0:Int).toNat (0:UInt8)):Nat):Int)))) then (qeH m0) qH ((qgL m0) n) n chars1 0 else bif ((decide (0≤(0:Int)))&&(decide ((0:Int) < s0.length))) then bif (decide (0≤(z164 chars1 (s0.getD (0:Int).toNat (0:UInt8))))) then qH (0:Int) else qH (-1:Int) else none else none else bif ((chars1.length:Int)==(1:Int)) then bif ((decide (0≤(0:Int)))&&(decide ((0:Int) < chars1.length))) then bif (decide ((128:Int)≤(qcT chars1))) then bif ((quI s0 (65533:Int))&&true) then qH (z165 s0 (65533:Int)) else none else bif ((quI s0 (qcT chars1))&&true) then qH (z165 s0 (qcT chars1)) else none else none else bif (z166 (s0.length:Int)) then bif ((qjh chars1)&&true) then bif ((z167 chars1).2) then (qcq m0) qH ((qcR m0) n) n ((z167 chars1).1) s0 (s0.length:Int) (0:Int) else (qby m0) qH ((qcd m0) n) n s0 chars1 (0:Int) else none else (qby m0) qH ((qcd m0) n) n s0 chars1 (0:Int)
def qxj (s4:Bool):OA:=some (dg s4)
def qDE (_n:Nat) (a0:LU) (b1:LU):OA :=
 qxj (a0==b1)
def qoR (s4:Bool):OA:=some (dg s4)
def qxk (_n:Nat) (s0:LU) (prefix1:LU):OA :=
 bif (decide ((prefix1.length:Int)≤(s0.length:Int))) then
 bif (((decide (0≤((0:Nat):Int)))&&(decide (((0:Nat):Int)≤(prefix1.length:Int))))&&(decide ((prefix1.length:Int)≤(s0.length:Int)))) then
 qoR (z194 (List.drop ((0:Nat):Int).toNat (List.take (prefix1.length:Int).toNat s0)) prefix1)
 else none
 else
 qoR false
def qhY (s2:Int):OA:=some (dc s2)
def qxl (_n:Nat) (s0:LU):OA :=
 bif (z171 s0 ([(13:UInt8),(10:UInt8)]:LU)) then
 qhY (2:Int)
 else
 bif (decide ((0:Int) < (s0.length:Int))) then
 qhY (1:Int)
 else
 qhY (0:Int)
def qhZ (V:Sigma Inv) (xv:Den V.1) (s36:LU):OA:=some (.tup [(.tup []),(.abs V.1 V.2 xv),(.pbox (.leaf (.sl .byte)) s36 none)])
def qao (s36:LU):=(IntKind.wrap .i64 ((z109 s36 ([13,10]:LU))+(z110 (List.drop (z109 s36 ([13,10]:LU)).toNat (List.take (s36.length:Int).toNat s36)))))
def qap (s36:LU):=(IntKind.wrap .i64 ((s36.length:Int)+(z110 (List.drop (s36.length:Int).toNat (List.take (s36.length:Int).toNat s36)))))
def qO (s36:LU):=(z109 s36 ([13,10]:LU))
def qaq (s36:LU):=(decide ((s36.length:Int)≤(s36.length:Int)))
def qbz (s36:LU):=(List.drop (s36.length:Int).toNat (List.take (qap s36).toNat s36))
def qbA (s36:LU):=(List.drop (qO s36).toNat (List.take (qao s36).toNat s36))
def qbB (s36:LU):=(List.drop ((0:Nat):Int).toNat (List.take (s36.length:Int).toNat s36))
def qbC (s36:LU):=(List.drop ((0:Nat):Int).toNat (List.take (qO s36).toNat s36))
def qgM (V:Sigma Inv) (ret:Den V.1→LU→OA) (k0:Den V.1→LU→OA) (next:Den V.1→LU→OA) (_n:Nat) (xv:Den V.1) (s36:LU):OA :=
 bif (decide ((0:Int) < (s36.length:Int))) then bif ((qji s36 ([13,10]:LU))&&true) then bif (decide ((qO s36) < (0:Int))) then bif (((decide (0≤(s36.length:Int)))&&(qaq s36))&&(qaq s36)) then bif (((decide (0≤((0:Nat):Int)))&&(decide (((0:Nat):Int)≤(s36.length:Int))))&&(qaq s36)) then bif (((decide (0≤(s36.length:Int)))&&(decide ((s36.length:Int)≤(qap s36))))&&(decide ((qap s36)≤(s36.length:Int)))) then bif (V.2.spec xv [⟨(.sl .byte),(qbB s36)⟩,⟨(.sl .byte),(qbz s36)⟩]).1 then bif (!(V.2.spec xv [⟨(.sl .byte),(qbB s36)⟩,⟨(.sl .byte),(qbz s36)⟩]).2.1) then ret (V.2.spec xv [⟨(.sl .byte),(qbB s36)⟩,⟨(.sl .byte),(qbz s36)⟩]).2.2 s36 else bif (((decide (0≤(qap s36)))&&(decide ((qap s36)≤(s36.length:Int))))&&(qaq s36)) then next (V.2.spec xv [⟨(.sl .byte),(qbB s36)⟩,⟨(.sl .byte),(qbz s36)⟩]).2.2 (List.drop (qap s36).toNat (List.take (s36.length:Int).toNat s36)) else none else none else none else none else none else bif (((decide (0≤(qO s36)))&&(decide ((qO s36)≤(s36.length:Int))))&&(qaq s36)) then bif (((decide (0≤((0:Nat):Int)))&&(decide (((0:Nat):Int)≤(qO s36))))&&(decide ((qO s36)≤(s36.length:Int)))) then bif (((decide (0≤(qO s36)))&&(decide ((qO s36)≤(qao s36))))&&(decide ((qao s36)≤(s36.length:Int)))) then bif (V.2.spec xv [⟨(.sl .byte),(qbC s36)⟩,⟨(.sl .byte),(qbA s36)⟩]).1 then bif (!(V.2.spec xv [⟨(.sl .byte),(qbC s36)⟩,⟨(.sl .byte),(qbA s36)⟩]).2.1) then ret (V.2.spec xv [⟨(.sl .byte),(qbC s36)⟩,⟨(.sl .byte),(qbA s36)⟩]).2.2 s36 else bif (((decide (0≤(qao s36)))&&(decide ((qao s36)≤(s36.length:Int))))&&(qaq s36)) then next (V.2.spec xv [⟨(.sl .byte),(qbC s36)⟩,⟨(.sl .byte),(qbA s36)⟩]).2.2 (List.drop (qao s36).toNat (List.take (s36.length:Int).toNat s36)) else none else none else none else none else none else none else k0 xv s36
def qeI (V:Sigma Inv) (ret:Den V.1→LU→OA) (k0:Den V.1→LU→OA):Nat→Den V.1→LU→OA
 | 0=>fun _ _=>none
 | n+1=>(qgM V) ret k0 ((qeI V) ret k0 n) n
def qgN (V:Sigma Inv) (_n:Nat) (xv:Den V.1) (s36:LU):OA :=
 (qhZ V) xv s36
def qxm (V:Sigma Inv) (n:Nat) (x0:Den V.1) (x1:LU):OA :=
 (qeI V) (qhZ V) ((qgN V) n) n x0 x1
def qOn (_n:Nat) (s0:LU):OA :=
 some (.abs (qdX [.leaf (.sl .byte)]) (clInv 108 [.leaf (.sl .byte)]) (s0,()))
def qg (s2:Int):OA:=some (dc s2)
def qU:=(bits .or .i64 (bits .or .i64 (0:Int) (1:Int)) (656:Int))
def qcU:=(bits .or .i64 (bits .or .i64 (0:Int) (1:Int)) (2:Int))
def qxn (_n:Nat) (c0:UInt8):OA :=
 bif (decide (c0 < (32:UInt8))) then bif (c0==(32:UInt8)) then qg (qcU) else bif (c0==(9:UInt8)) then qg (qcU) else bif (decide ((48:UInt8)≤c0)) then bif (decide (c0≤(57:UInt8))) then qg (bits .or .i64 (bits .or .i64 (0:Int) (1:Int)) (648:Int)) else bif (decide ((65:UInt8)≤c0)) then bif (decide (c0≤(90:UInt8))) then bif (decide (c0≤(90:UInt8))) then qg (qU) else qg (bits .or .i64 (0:Int) (1:Int)) else bif (decide ((97:UInt8)≤c0)) then bif (decide (c0≤(122:UInt8))) then qg (qU) else qg (bits .or .i64 (0:Int) (1:Int)) else qg (bits .or .i64 (0:Int) (1:Int)) else bif (decide ((97:UInt8)≤c0)) then bif (decide (c0≤(122:UInt8))) then qg (qU) else qg (bits .or .i64 (0:Int) (1:Int)) else qg (bits .or .i64 (0:Int) (1:Int)) else bif (decide ((65:UInt8)≤c0)) then bif (decide (c0≤(90:UInt8))) then bif (decide (c0≤(90:UInt8))) then qg (qU) else qg (bits .or .i64 (0:Int) (1:Int)) else bif (decide ((97:UInt8)≤c0)) then bif (decide (c0≤(122:UInt8))) then qg (qU) else qg (bits .or .i64 (0:Int) (1:Int)) else qg (bits .or .i64 (0:Int) (1:Int)) else bif (decide ((97:UInt8)≤c0)) then bif (decide (c0≤(122:UInt8))) then qg (qU) else qg (bits .or .i64 (0:Int) (1:Int)) else qg (bits .or .i64 (0:Int) (1:Int)) else bif (c0==(127:UInt8)) then bif (c0==(32:UInt8)) then qg (qcU) else bif (c0==(9:UInt8)) then qg (qcU) else bif (decide ((48:UInt8)≤c0)) then bif (decide (c0≤(57:UInt8))) then qg (bits .or .i64 (bits .or .i64 (0:Int) (1:Int)) (648:Int)) else bif (decide ((65:UInt8)≤c0)) then bif (decide (c0≤(90:UInt8))) then bif (decide (c0≤(90:UInt8))) then qg (qU) else qg (bits .or .i64 (0:Int) (1:Int)) else bif (decide ((97:UInt8)≤c0)) then bif (decide (c0≤(122:UInt8))) then qg (qU) else qg (bits .or .i64 (0:Int) (1:Int)) else qg (bits .or .i64 (0:Int) (1:Int)) else bif (decide ((97:UInt8)≤c0)) then bif (decide (c0≤(122:UInt8))) then qg (qU) else qg (bits .or .i64 (0:Int) (1:Int)) else qg (bits .or .i64 (0:Int) (1:Int)) else bif (decide ((65:UInt8)≤c0)) then bif (decide (c0≤(90:UInt8))) then bif (decide (c0≤(90:UInt8))) then qg (qU) else qg (bits .or .i64 (0:Int) (1:Int)) else bif (decide ((97:UInt8)≤c0)) then bif (decide (c0≤(122:UInt8))) then qg (qU) else qg (bits .or .i64 (0:Int) (1:Int)) else qg (bits .or .i64 (0:Int) (1:Int)) else bif (decide ((97:UInt8)≤c0)) then bif (decide (c0≤(122:UInt8))) then qg (qU) else qg (bits .or .i64 (0:Int) (1:Int)) else qg (bits .or .i64 (0:Int) (1:Int)) else bif (c0==(32:UInt8)) then qg (bits .or .i64 (0:Int) (2:Int)) else bif (c0==(9:UInt8)) then qg (bits .or .i64 (0:Int) (2:Int)) else bif (decide ((48:UInt8)≤c0)) then bif (decide (c0≤(57:UInt8))) then qg (bits .or .i64 (0:Int) (648:Int)) else bif (decide ((65:UInt8)≤c0)) then bif (decide (c0≤(90:UInt8))) then bif (decide (c0≤(90:UInt8))) then qg (bits .or .i64 (0:Int) (656:Int)) else qg (0:Int) else bif (decide ((97:UInt8)≤c0)) then bif (decide (c0≤(122:UInt8))) then qg (bits .or .i64 (0:Int) (656:Int)) else qg (0:Int) else qg (0:Int) else bif (decide ((97:UInt8)≤c0)) then bif (decide (c0≤(122:UInt8))) then qg (bits .or .i64 (0:Int) (656:Int)) else qg (0:Int) else qg (0:Int) else bif (decide ((65:UInt8)≤c0)) then bif (decide (c0≤(90:UInt8))) then bif (decide (c0≤(90:UInt8))) then qg (bits .or .i64 (0:Int) (656:Int)) else qg (0:Int) else bif (decide ((97:UInt8)≤c0)) then bif (decide (c0≤(122:UInt8))) then qg (bits .or .i64 (0:Int) (656:Int)) else qg (0:Int) else qg (0:Int) else bif (decide ((97:UInt8)≤c0)) then bif (decide (c0≤(122:UInt8))) then qg (bits .or .i64 (0:Int) (656:Int)) else qg (0:Int) else qg (0:Int)
def qxo (s4:Int):OA:=some (dc s4)
def qDF (_n:Nat) (s0:LU) (c1:UInt8):OA :=
 qxo (z164 s0 c1)
def qxp (s4:Int):OA:=some (dc s4)
def qDG (_n:Nat) (s0:LU) (c1:UInt8):OA :=
 qxp (z236 s0 c1)
def qxq (s4:Bool):OA:=some (dg s4)
def qDH (_n:Nat) (s0:LU) (c1:UInt8):OA :=
 qxq (decide (0≤(z216 s0 c1)))
def qar (s2:Int):OA:=some (dc s2)
def qaX (c0:UInt8):=(bits .or .i64 (z228 c0) (4:Int))
def qcV (c0:UInt8):=(z229 ([40,41,60,62,64,44,59,58,92,34,47,91,93,63,61]:LU) c0)
def qbD (c0:UInt8):=(bits .or .i64 (qaX c0) (128:Int))
def qxr (_n:Nat) (c0:UInt8):OA :=
 bif (decide (c0 < (33:UInt8))) then qar (z228 c0) else bif (decide ((126:UInt8) < c0)) then qar (z228 c0) else bif (z229 ([33,42,43,45,47]:LU) c0) then bif (z229 ([43,47]:LU) c0) then bif (qcV c0) then qar (bits .or .i64 (bits .or .i64 (qbD c0) (512:Int)) (32:Int)) else bif (!(z229 ([42,39,37]:LU) c0)) then qar (bits .or .i64 (bits .or .i64 (bits .or .i64 (qbD c0) (512:Int)) (64:Int)) (256:Int)) else qar (bits .or .i64 (bits .or .i64 (qbD c0) (512:Int)) (64:Int)) else bif (qcV c0) then qar (bits .or .i64 (qbD c0) (32:Int)) else bif (!(z229 ([42,39,37]:LU) c0)) then qar (bits .or .i64 (bits .or .i64 (qbD c0) (64:Int)) (256:Int)) else qar (bits .or .i64 (qbD c0) (64:Int)) else bif (z229 ([43,47]:LU) c0) then bif (qcV c0) then qar (bits .or .i64 (bits .or .i64 (qaX c0) (512:Int)) (32:Int)) else bif (!(z229 ([42,39,37]:LU) c0)) then qar (bits .or .i64 (bits .or .i64 (bits .or .i64 (qaX c0) (512:Int)) (64:Int)) (256:Int)) else qar (bits .or .i64 (bits .or .i64 (qaX c0) (512:Int)) (64:Int)) else bif (qcV c0) then qar (bits .or .i64 (qaX c0) (32:Int)) else bif (!(z229 ([42,39,37]:LU) c0)) then qar (bits .or .i64 (bits .or .i64 (qaX c0) (64:Int)) (256:Int)) else qar (bits .or .i64 (qaX c0) (64:Int))
def qxs (s4:Bool):OA:=some (dg s4)
def qDI (_n:Nat) (c0:UInt8) (kinds1:Int):OA :=
 qxs ((bits .and .i64 (z198 c0) kinds1) != (0:Int))
def qxt (s0:List (UInt8×(Int×Unit))):OA:=some (.dat (.arr 8 (.pair .byte (.pair (.int .i32) .unit))) s0 none)
def qDJ (_n:Nat):OA :=
 qxt ([((164:UInt8),((8364:Int),())),((166:UInt8),((352:Int),())),((168:UInt8),((353:Int),())),((180:UInt8),((381:Int),())),((184:UInt8),((382:Int),())),((188:UInt8),((338:Int),())),((189:UInt8),((339:Int),())),((190:UInt8),((376:Int),()))]:List (UInt8×(Int×Unit)))
def qxu (s0:LI):OA:=some (.dat (.sl (.int .i32)) s0 none)
def qDK (_n:Nat):OA :=
 qxu (List.drop 0 (List.take 32 ([(8364:Int),(0:Int),(8218:Int),(402:Int),(8222:Int),(8230:Int),(8224:Int),(8225:Int),(710:Int),(8240:Int),(352:Int),(8249:Int),(338:Int),(0:Int),(381:Int),(0:Int),(0:Int),(8216:Int),(8217:Int),(8220:Int),(8221:Int),(8226:Int),(8211:Int),(8212:Int),(732:Int),(8482:Int),(353:Int),(8250:Int),(339:Int),(0:Int),(382:Int),(376:Int)]:LI)))
def qia (s2:UInt8):OA:=some (dm s2)
def qxv (_n:Nat) (n0:Int):OA :=
 bif (n0==(2:Int)) then
 qia (192:UInt8)
 else
 bif (n0==(3:Int)) then
 qia (224:UInt8)
 else
 bif (n0==(4:Int)) then
 qia (240:UInt8)
 else
 qia (0:UInt8)
def qDL (s2:Bool):OA:=some (dg s2)
def qLG (_n:Nat) (c0:UInt8):OA :=
 qDL (decide ((128:UInt8)≤c0))
def qfA (s4:Int):OA:=some (dc s4)
def qgO (ret:Int→OA) (next:LU→LU→Int→OA) (_n:Nat) (s0:LU) (sep1:LU) (n5:Int):OA :=
 bif ((qhD s0 sep1)&&true) then
 bif ((z143 s0 sep1)==(-1:Int)) then
 ret n5
 else
 bif (((decide (0≤(IntKind.wrap .i64 ((z143 s0 sep1)+(sep1.length:Int)))))&&(decide ((IntKind.wrap .i64 ((z143 s0 sep1)+(sep1.length:Int)))≤(s0.length:Int))))&&(decide ((s0.length:Int)≤(s0.length:Int)))) then
 next (List.drop (IntKind.wrap .i64 ((z143 s0 sep1)+(sep1.length:Int))).toNat (List.take (s0.length:Int).toNat s0)) sep1 (IntKind.wrap .i64 (n5+1))
 else none
 else none
def qib (ret:Int→OA):Nat→LU→LU→Int→OA
 | 0=>fun _ _ _=>none
 | n+1=>qgO ret (qib ret n) n
def qqW (n:Nat) (s0:LU) (sep1:LU):OA :=
 bif ((sep1.length:Int)==(0:Int)) then
 bif ((qDu s0)&&true) then
 qfA (IntKind.wrap .i64 ((z192 s0)+1))
 else none
 else
 bif ((sep1.length:Int)==(1:Int)) then
 bif ((decide (0≤(0:Int)))&&(decide ((0:Int) < sep1.length))) then
 qfA (z193 s0 (sep1.getD (0:Int).toNat (0:UInt8)))
 else none
 else
 qib qfA n s0 sep1 (0:Int)
def qxw (s3:Int) (s9:LU):OA:=some (.tup [(dc s3),.bad,(.pbox (.leaf (.sl .byte)) s9 none)])
def qxx (_n:Nat) (c0:UInt8) (x1:LU):OA :=
 bif ((qeB x1 ([c0]:LU))&&true) then
 qxw (z139 x1 ([c0]:LU)) x1
 else none
def qDM (s2:Int):OA:=some (dc s2)
def qFJ (_n:Nat) (s0:LU):OA :=
 bif ((qeB s0 ([(13:UInt8),(10:UInt8)]:LU))&&true) then
 bif (qjj (13:UInt8) s0) then
 bif (qjj (10:UInt8) ((z140 (13:UInt8) s0).2)) then
 qDM (IntKind.wrap .i64 ((IntKind.wrap .i64 (((z140 (13:UInt8) s0).1)+((z140 (10:UInt8) ((z140 (13:UInt8) s0).2)).1))) - (IntKind.wrap .i64 ((2:Int)*(z139 s0 ([(13:UInt8),(10:UInt8)]:LU))))))
 else none
 else none
 else none
def qxy (before4:LU) (after5:LU) (found6:Bool):OA:=some (.tup [(da before4),(da after5),(dg found6)])
def qFK (_n:Nat) (s0:LU) (sep1:LU):OA :=
 bif ((qhD s0 sep1)&&true) then
 bif (decide (0≤(z143 s0 sep1))) then
 bif (((decide (0≤((0:Nat):Int)))&&(decide (((0:Nat):Int)≤(z143 s0 sep1))))&&(decide ((z143 s0 sep1)≤(s0.length:Int)))) then
 bif (((decide (0≤(IntKind.wrap .i64 ((z143 s0 sep1)+(sep1.length:Int)))))&&(decide ((IntKind.wrap .i64 ((z143 s0 sep1)+(sep1.length:Int)))≤(s0.length:Int))))&&(decide ((s0.length:Int)≤(s0.length:Int)))) then
 qxy (List.drop ((0:Nat):Int).toNat (List.take (z143 s0 sep1).toNat s0)) (List.drop (IntKind.wrap .i64 ((z143 s0 sep1)+(sep1.length:Int))).toNat (List.take (s0.length:Int).toNat s0)) true
 else none
 else none
 else
 qxy s0 ([]:LU) false
 else none
def qxz (s2:List LU):OA:=some (.dat (.sl (.sl .byte)) s2 (some (2,24)))
def qaQ:=([(13:UInt8),(10:UInt8)]:LU)
def qgP (k0:List LU→OA) (next:LU→List LU→OA) (_n:Nat) (s0:LU) (out3:List LU):OA :=
 bif (decide ((0:Int) < (s0.length:Int))) then bif ((qsj s0 (qaQ))&&true) then bif ((qdM ((z82 s0 (qaQ)).1))&&true) then bif (decide (out3.length+List.length ([(z153 ((z82 s0 (qaQ)).1))]:List LU)≤room)) then next ((z82 s0 (qaQ)).2.1) (out3++([(z153 ((z82 s0 (qaQ)).1))]:List LU)) else none else none else none else k0 out3
def qeJ (k0:List LU→OA):Nat→LU→List LU→OA
 | 0=>fun _ _=>none
 | n+1=>qgP k0 (qeJ k0 n) n
def qgQ (_n:Nat) (out3:List LU):OA :=
 qxz out3
def qqX (n:Nat) (s0:LU):OA :=
 qeJ (qgQ n) n s0 ([]:List LU)
def qDN (s2:Int):OA:=some (dc s2)
def qfB (k0:Int→OA) (next:Int→List LU→Int→Int→OA) (_n:Nat) (n3:Int) (s7:List LU) (s8:Int) (s9:Int):OA :=
 bif (decide (s9 < s8)) then
 bif ((decide (0≤s9))&&(decide (s9 < s7.length))) then
 next (bif (decide (((s7.getD s9.toNat ([]:LU)).length:Int) > n3)) then ((s7.getD s9.toNat ([]:LU)).length:Int) else n3) s7 s8 (IntKind.wrap .i64 (s9+1))
 else none
 else
 k0 n3
def qld (k0:Int→OA):Nat→Int→List LU→Int→Int→OA
 | 0=>fun _ _ _ _=>none
 | n+1=>qfB k0 (qld k0 n) n
def qic (_n:Nat) (n3:Int):OA :=
 qDN n3
def qBE (n:Nat) (s0:LU):OA :=
 bif ((qqP s0)&&true) then
 qld (qic n) n (0:Int) (z142 s0) ((z142 s0).length:Int) (0:Int)
 else none
def qid (s4:Int):OA:=some (dc s4)
def qfC (k0:LU→Int→Bool→OA) (next:LU→Int→Bool→LU→Int→Int→OA) (_n:Nat) (s0:LU) (most1:Int) (above6:Bool) (s9:LU) (s10:Int) (s11:Int):OA :=
 bif (decide (s11 < s10)) then
 bif ((decide (0≤s11))&&(decide (s11 < s9.length))) then
 bif above6 then
 next s0 most1 true s9 s10 (IntKind.wrap .i64 (s11+1))
 else
 next s0 most1 (z78 (s9.getD s11.toNat (0:UInt8))) s9 s10 (IntKind.wrap .i64 (s11+1))
 else none
 else
 k0 s0 most1 above6
def qle (k0:LU→Int→Bool→OA):Nat→LU→Int→Bool→LU→Int→Int→OA
 | 0=>fun _ _ _ _ _ _=>none
 | n+1=>qfC k0 (qle k0 n) n
def qfD (_n:Nat) (s0:LU) (most1:Int) (above6:Bool):OA :=
 bif ((qBl s0)&&true) then
 bif (decide ((0:Int) < (z79 s0))) then
 qid (8:Int)
 else
 bif (decide (0≤(z80 s0 (0:UInt8)))) then
 qid (8:Int)
 else
 bif above6 then
 qid (9:Int)
 else
 bif (decide ((0:Int) < (s0.length:Int))) then
 bif ((qBn s0)&&true) then
 bif (decide (most1 < (z81 s0))) then
 qid (12:Int)
 else
 qid (0:Int)
 else none
 else
 qid (0:Int)
 else none
def qFL (n:Nat) (s0:LU) (most1:Int):OA :=
 qle (qfD n) n s0 most1 false s0 (s0.length:Int) (0:Int)
def qDO (s2:LU) (s3:Int):OA:=some (.tup [(da s2),(dc s3)])
def qFM (_n:Nat) (s0:LU):OA :=
 bif ((qsZ s0 (76:Int))&&true) then
 qDO s0 (z37 s0 (76:Int))
 else none
def qoS (s25:LU×(Int×Unit)):OA:=some (.tup [(.tup []),(.pbox (.ppair (.osl 5 .byte) (.ppair (.leaf (.int .i64)) (.leaf .unit))) s25 none),.bad])
def qce (p0:LU×(Int×Unit)):=((p0.1++([(61:UInt8)]:LU)),p0.2)
def qxA (_n:Nat) (p0:LU×(Int×Unit)) (soft1:Bool):OA :=
 bif soft1 then bif (decide (List.length p0.1+List.length ([(61:UInt8)]:LU)≤room)) then bif (decide (List.length (qce p0).1+List.length ([13,10]:LU)≤room)) then qoS ((((qce p0).1++([13,10]:LU)),(qce p0).2).1,((0:Int),(((qce p0).1++([13,10]:LU)),(qce p0).2).2.2)) else none else none else bif (decide (List.length p0.1+List.length ([13,10]:LU)≤room)) then qoS (((p0.1++([13,10]:LU)),p0.2).1,((0:Int),((p0.1++([13,10]:LU)),p0.2).2.2)) else none
def qoT (s32:LU×(Int×Unit)):OA:=some (.tup [(.tup []),(.pbox (.ppair (.osl 5 .byte) (.ppair (.leaf (.int .i64)) (.leaf .unit))) s32 none),.bad])
def qxB (_n:Nat) (p0:LU×(Int×Unit)) (u1:LU):OA :=
 bif (decide ((75:Int) < (IntKind.wrap .i64 (p0.2.1+(u1.length:Int))))) then
 bif (qeD p0 true) then
 bif (decide (List.length (z121 p0 true).1+u1.length≤room)) then
 qoT ((((z121 p0 true).1++u1),(z121 p0 true).2).1,((IntKind.wrap .i64 ((((z121 p0 true).1++u1),(z121 p0 true).2).2.1+(u1.length:Int))),(((z121 p0 true).1++u1),(z121 p0 true).2).2.2))
 else none
 else none
 else
 bif (decide (List.length p0.1+u1.length≤room)) then
 qoT (((p0.1++u1),p0.2).1,((IntKind.wrap .i64 (((p0.1++u1),p0.2).2.1+(u1.length:Int))),((p0.1++u1),p0.2).2.2))
 else none
def qbE (s4:Int):OA:=some (dc s4)
def qcW (s0:LU) (at1:Int):=((decide (0≤at1))&&(decide (at1 < s0.length)))
def qxC (_n:Nat) (s0:LU) (at1:Int):OA :=
 bif (decide ((s0.length:Int)≤at1)) then qbE (0:Int) else bif (qcW s0 at1) then bif ((s0.getD at1.toNat (0:UInt8)) != (13:UInt8)) then bif (qcW s0 at1) then bif ((s0.getD at1.toNat (0:UInt8)) != (10:UInt8)) then qbE (0:Int) else bif (qcW s0 at1) then bif ((s0.getD at1.toNat (0:UInt8))==(13:UInt8)) then bif (decide ((IntKind.wrap .i64 (at1+1)) < (s0.length:Int))) then bif ((decide (0≤(IntKind.wrap .i64 (at1+1))))&&(decide ((IntKind.wrap .i64 (at1+1)) < s0.length))) then bif ((s0.getD (IntKind.wrap .i64 (at1+1)).toNat (0:UInt8))==(10:UInt8)) then qbE (2:Int) else qbE (1:Int) else none else qbE (1:Int) else qbE (1:Int) else none else none else bif (qcW s0 at1) then bif ((s0.getD at1.toNat (0:UInt8))==(13:UInt8)) then bif (decide ((IntKind.wrap .i64 (at1+1)) < (s0.length:Int))) then bif ((decide (0≤(IntKind.wrap .i64 (at1+1))))&&(decide ((IntKind.wrap .i64 (at1+1)) < s0.length))) then bif ((s0.getD (IntKind.wrap .i64 (at1+1)).toNat (0:UInt8))==(10:UInt8)) then qbE (2:Int) else qbE (1:Int) else none else qbE (1:Int) else qbE (1:Int) else none else none
def qxD (s2:UInt8):OA:=some (dm s2)
def qxE (_n:Nat) (n0:Int):OA :=
 bif ((decide (0≤(bits .and .i64 n0 (15:Int))))&&(decide ((bits .and .i64 n0 (15:Int)) < ([48,49,50,51,52,53,54,55,56,57,65,66,67,68,69,70]:LU).length))) then
 qxD (([48,49,50,51,52,53,54,55,56,57,65,66,67,68,69,70]:LU).getD (bits .and .i64 n0 (15:Int)).toNat (0:UInt8))
 else none
def qxF (s2:LU):OA:=some (db s2 (some (2,5)))
def qxG (_n:Nat) (c0:UInt8):OA :=
 bif ((qdJ (IntKind.wrap .i64 ((UInt8.toNat (UInt8.ofNat (UInt8.toNat c0 / 2 ^ (min (4:Int).toNat 8))):Nat):Int)))&&true) then
 bif ((qdJ (IntKind.wrap .i64 ((UInt8.toNat c0:Nat):Int)))&&true) then
 qxF ([(z239 (IntKind.wrap .i64 ((UInt8.toNat (UInt8.ofNat (UInt8.toNat c0 / 2 ^ (min (4:Int).toNat 8))):Nat):Int))),(z239 (IntKind.wrap .i64 ((UInt8.toNat c0:Nat):Int)))]:LU)
 else none
 else none
def qxH (s6:LU):OA:=some (db s6 (some (6,5)))
def qxI (_n:Nat) (b0:LU) (sign1:UInt8) (c2:UInt8):OA :=
 bif ((qdM b0)&&true) then
 bif (decide (List.length (z153 b0)+List.length ([sign1]:LU)≤room)) then
 bif (decide (List.length ((z153 b0)++([sign1]:LU))+List.length (z219 c2)≤room)) then
 qxH (((z153 b0)++([sign1]:LU))++(z219 c2))
 else none
 else none
 else none
def qcX (s4:LU):OA:=some (db s4 (some (4,5)))
def qcY (c0:UInt8):=((qqa ([]:LU) (61:UInt8) c0)&&true)
def qxJ (_n:Nat) (c0:UInt8) (ends1:Bool):OA :=
 bif (c0 != (61:UInt8)) then bif (z144 c0 (4:Int)) then qcX ([c0]:LU) else bif (!ends1) then bif (z144 c0 (2:Int)) then qcX ([c0]:LU) else bif (qcY c0) then qcX (z179 ([]:LU) (61:UInt8) c0) else none else bif (qcY c0) then qcX (z179 ([]:LU) (61:UInt8) c0) else none else bif (!ends1) then bif (z144 c0 (2:Int)) then qcX ([c0]:LU) else bif (qcY c0) then qcX (z179 ([]:LU) (61:UInt8) c0) else none else bif (qcY c0) then qcX (z179 ([]:LU) (61:UInt8) c0) else none
def qxK (s2:LU):OA:=some (da s2)
def qcZ (k0:LU×(Int×Unit)→OA) (next:LU→LU×(Int×Unit)→Int→OA) (_n:Nat) (s0:LU) (p3:LU×(Int×Unit)) (at5:Int):OA :=
 bif (decide (at5 < (s0.length:Int))) then
 bif ((qhW s0 at5)&&true) then
 bif (decide ((0:Int) < (z120 s0 at5))) then
 bif (qeD p3 false) then
 next s0 (z121 p3 false) (IntKind.wrap .i64 (at5+(z120 s0 at5)))
 else none
 else
 bif ((decide (0≤at5))&&(decide (at5 < s0.length))) then
 bif ((qhW s0 (IntKind.wrap .i64 (at5+1)))&&true) then
 bif (qjk p3 (z122 (s0.getD at5.toNat (0:UInt8)) (decide ((0:Int) < (z120 s0 (IntKind.wrap .i64 (at5+1))))))) then
 next s0 (z119 p3 (z122 (s0.getD at5.toNat (0:UInt8)) (decide ((0:Int) < (z120 s0 (IntKind.wrap .i64 (at5+1))))))) (IntKind.wrap .i64 (at5+1))
 else none
 else none
 else none
 else none
 else
 k0 p3
def qoU (k0:LU×(Int×Unit)→OA):Nat→LU→LU×(Int×Unit)→Int→OA
 | 0=>fun _ _ _=>none
 | n+1=>qcZ k0 (qoU k0 n) n
def qfE (_n:Nat) (p3:LU×(Int×Unit)):OA :=
 bif (decide ((0:Int) < p3.2.1)) then
 bif (qeD p3 true) then
 qxK (z121 p3 true).1
 else none
 else
 qxK p3.1
def qBF (n:Nat) (s0:LU):OA :=
 qoU (qfE n) n s0 (([]:LU),((0:Int),())) (0:Int)
def qDP (s2:LU) (s3:Int):OA:=some (.tup [(da s2),(dc s3)])
def qFN (_n:Nat) (s0:LU):OA :=
 bif ((qBB s0)&&true) then
 qDP (z62 s0) (0:Int)
 else none
def qxL (s2:UInt8):OA:=some (dm s2)
def qie:=([65,66,67,68,69,70,71,72,73,74,75,76,77,78,79,80,81,82,83,84,85,86,87,88,89,90,97,98,99,100,101,102,103,104,105,106,107,108,109,110,111,112,113,114,115,116,117,118,119,120,121,122,48,49,50,51,52,53,54,55,56,57,43,47]:LU)
def qxM (_n:Nat) (n0:Int):OA :=
 bif ((decide (0≤(bits .and .i64 n0 (63:Int))))&&(decide ((bits .and .i64 n0 (63:Int)) < (qie).length))) then qxL ((qie).getD (bits .and .i64 n0 (63:Int)).toNat (0:UInt8)) else none
def qif (s2:LU):OA:=some (db s2 (some (2,5)))
def qqY (k2:LU→Int→Int→LU→Int→Int→OA) (next:LU→Int→Int→LU→Int→Int→OA) (_n:Nat) (out3:LU) (held4:Int) (many5:Int) (s8:LU) (s9:Int) (s10:Int):OA :=
 bif (decide ((6:Int)≤many5)) then
 bif (decide (0≤(IntKind.wrap .i64 (many5 - (6:Int))))) then
 bif (decide (out3.length+List.length ([(z222 (Int.fdiv held4 (2 ^ (min (IntKind.wrap .i64 (many5 - (6:Int))).toNat (IntKind.bits .i64)))))]:LU)≤room)) then
 next (out3++([(z222 (Int.fdiv held4 (2 ^ (min (IntKind.wrap .i64 (many5 - (6:Int))).toNat (IntKind.bits .i64)))))]:LU)) held4 (IntKind.wrap .i64 (many5 - (6:Int))) s8 s9 s10
 else none
 else none
 else
 k2 out3 held4 many5 s8 s9 s10
def qcf (k2:LU→Int→Int→LU→Int→Int→OA):Nat→LU→Int→Int→LU→Int→Int→OA
 | 0=>fun _ _ _ _ _ _=>none
 | n+1=>qqY k2 (qcf k2 n) n
def qbR (_k0:LU→Int→Int→OA) (next:LU→Int→Int→LU→Int→Int→OA) (_n:Nat) (out3:LU) (held4:Int) (many5:Int) (s8:LU) (s9:Int) (s10:Int):OA :=
 bif (decide (0≤many5)) then
 next out3 (bits .and .i64 held4 (IntKind.wrap .i64 ((IntKind.wrap .i64 ((1:Int)*2 ^ (min many5.toNat (IntKind.bits .i64)))) - (1:Int)))) many5 s8 s9 (IntKind.wrap .i64 (s10+1))
 else none
def qcr (k0:LU→Int→Int→OA) (next:LU→Int→Int→LU→Int→Int→OA) (n:Nat) (out3:LU) (held4:Int) (many5:Int) (s8:LU) (s9:Int) (s10:Int):OA :=
 bif (decide (s10 < s9)) then
 bif ((decide (0≤s10))&&(decide (s10 < s8.length))) then
 qcf (qbR k0 next n) n out3 (bits .or .i64 (IntKind.wrap .i64 (held4*2 ^ (min (8:Int).toNat (IntKind.bits .i64)))) (IntKind.wrap .i64 ((UInt8.toNat (s8.getD s10.toNat (0:UInt8)):Nat):Int))) (IntKind.wrap .i64 (many5+(8:Int))) s8 s9 s10
 else none
 else
 k0 out3 held4 many5
def qig (k0:LU→Int→Int→OA):Nat→LU→Int→Int→LU→Int→Int→OA
 | 0=>fun _ _ _ _ _ _=>none
 | n+1=>qcr k0 (qig k0 n) n
def qcs (_n:Nat) (out3:LU) (held4:Int) (many5:Int):OA :=
 bif (decide ((0:Int) < many5)) then
 bif (decide (0≤(IntKind.wrap .i64 ((6:Int) - many5)))) then
 bif (decide (out3.length+List.length ([(z222 (IntKind.wrap .i64 (held4*2 ^ (min (IntKind.wrap .i64 ((6:Int) - many5)).toNat (IntKind.bits .i64)))))]:LU)≤room)) then
 qif (out3++([(z222 (IntKind.wrap .i64 (held4*2 ^ (min (IntKind.wrap .i64 ((6:Int) - many5)).toNat (IntKind.bits .i64)))))]:LU))
 else none
 else none
 else
 qif out3
def qqZ (n:Nat) (s0:LU):OA :=
 qig (qcs n) n ([]:LU) (0:Int) (0:Int) s0 (s0.length:Int) (0:Int)
def qDQ (s2:LU):OA:=some (db s2 (some (2,5)))
def qaR (code3:LU):=(bif (decide ((76:Int) < (code3.length:Int))) then (76:Int) else (code3.length:Int))
def qdp (code3:LU):=(List.drop ((0:Nat):Int).toNat (List.take (qaR code3).toNat code3))
def qlf (k0:LU→OA) (next:LU→LU→OA) (_n:Nat) (code3:LU) (out4:LU):OA :=
 bif (decide ((0:Int) < (code3.length:Int))) then bif (((decide (0≤((0:Nat):Int)))&&(decide (((0:Nat):Int)≤(qaR code3))))&&(decide ((qaR code3)≤(code3.length:Int)))) then bif (decide (out4.length+List.length (qdp code3)≤room)) then bif (decide (List.length (out4++(qdp code3))+List.length ([13,10]:LU)≤room)) then bif (((decide (0≤(qaR code3)))&&(decide ((qaR code3)≤(code3.length:Int))))&&(decide ((code3.length:Int)≤(code3.length:Int)))) then next (List.drop (qaR code3).toNat (List.take (code3.length:Int).toNat code3)) ((out4++(qdp code3))++([13,10]:LU)) else none else none else none else none else k0 out4
def qnd (k0:LU→OA):Nat→LU→LU→OA
 | 0=>fun _ _=>none
 | n+1=>qlf k0 (qnd k0 n) n
def qih (_n:Nat) (out4:LU):OA :=
 qDQ out4
def qBG (n:Nat) (s0:LU):OA :=
 bif ((quH s0)&&true) then
 qnd (qih n) n (z123 s0) ([]:LU)
 else none
def qDR (s2:LU) (s3:Int):OA:=some (.tup [(da s2),(dc s3)])
def qFO (_n:Nat) (s0:LU):OA :=
 bif ((qsY s0)&&true) then
 qDR (z64 s0) (0:Int)
 else none
def qFP (_n:Nat) (coding0:Int):OA :=
 bif (coding0==(1:Int)) then
 some (.tup [(.fn 60 []),(dg true)])
 else
 bif (coding0==(2:Int)) then
 some (.tup [(.fn 61 []),(dg true)])
 else
 bif (coding0==(3:Int)) then
 some (.tup [(.fn 63 []),(dg true)])
 else
 some (.tup [.bad,(dg false)])
def qdN (s2:Int):OA:=some (dc s2)
def qFQ (_n:Nat) (charset0:Int):OA :=
 bif (charset0==(1:Int)) then
 qdN (128:Int)
 else
 bif (charset0==(2:Int)) then
 bif (charset0==(2:Int)) then
 qdN (256:Int)
 else
 bif (charset0==(4:Int)) then
 qdN (251:Int)
 else
 bif (charset0==(5:Int)) then
 qdN (1112064:Int)
 else
 qdN (0:Int)
 else
 bif (charset0==(3:Int)) then
 qdN (256:Int)
 else
 bif (charset0==(4:Int)) then
 qdN (251:Int)
 else
 bif (charset0==(5:Int)) then
 qdN (1112064:Int)
 else
 qdN (0:Int)
def qxN (s2:Bool):OA:=some (dg s2)
def qDS (_n:Nat) (c0:Int):OA :=
 qxN (decide ((IntKind.wrap .u32 c0) < (256:Int)))
def qda (s2:UInt8) (s3:Bool):OA:=some (.tup [(dm s2),(dg s3)])
def qra (ret:UInt8→Bool→OA) (k0:Int→OA) (next:Int→List (UInt8×(Int×Unit))→Int→OA) (_n:Nat) (c0:Int) (s6:List (UInt8×(Int×Unit))) (s7:Int):OA :=
 bif (decide (s7 < (8:Int))) then
 bif ((decide (0≤s7))&&(decide (s7 < (8:Nat)))) then
 bif (c0==(s6.getD s7.toNat ((0:UInt8),((0:Int),()))).2.1) then
 ret (s6.getD s7.toNat ((0:UInt8),((0:Int),()))).1 true
 else
 bif (c0==(IntKind.wrap .i32 ((UInt8.toNat (s6.getD s7.toNat ((0:UInt8),((0:Int),()))).1:Nat):Int))) then
 ret (0:UInt8) false
 else
 next c0 s6 (IntKind.wrap .i64 (s7+1))
 else none
 else
 k0 c0
def qjl (ret:UInt8→Bool→OA) (k0:Int→OA):Nat→Int→List (UInt8×(Int×Unit))→Int→OA
 | 0=>fun _ _ _=>none
 | n+1=>qra ret k0 (qjl ret k0 n) n
def qdq (_n:Nat) (c0:Int):OA :=
 bif (decide (c0 < (0:Int))) then
 qda (0:UInt8) false
 else
 bif (decide ((256:Int)≤c0)) then
 qda (0:UInt8) false
 else
 qda (UInt8.ofNat (IntKind.wrap .u8 c0).toNat) true
def qxO (n:Nat) (c0:Int):OA :=
 qjl qda (qdq n) n c0 z176 (0:Int)
def qxP (s2:Bool):OA:=some (dg s2)
def qDT (_n:Nat) (c0:Int):OA :=
 qxP ((z127 c0).2)
def qii (s4:Int):OA:=some (dc s4)
def qdr (ret:Int→OA) (k0:OA) (next:LI→Int→Int→Int→OA) (_n:Nat) (s0:LI) (v1:Int) (s7:Int) (s8:Int):OA :=
 bif (decide (s8 < s7)) then
 bif ((decide (0≤s8))&&(decide (s8 < s0.length))) then
 bif (v1==(s0.getD s8.toNat 0)) then
 ret s8
 else
 next s0 v1 s7 (IntKind.wrap .i64 (s8+1))
 else none
 else
 k0
def qij (ret:Int→OA) (k0:OA):Nat→LI→Int→Int→Int→OA
 | 0=>fun _ _ _ _=>none
 | n+1=>qdr ret k0 (qij ret k0 n) n
def qeK (_n:Nat):OA :=
 qii (-1:Int)
def qrb (n:Nat) (s0:LI) (v1:Int):OA :=
 qij qii (qeK n) n s0 v1 (s0.length:Int) (0:Int)
def qV (s2:UInt8) (s3:Bool):OA:=some (.tup [(dm s2),(dg s3)])
def qcg (c0:Int):=(UInt8.ofNat (IntKind.wrap .u8 (IntKind.wrap .i64 ((128:Int)+(z186 z177 c0)))).toNat)
def qch (c0:Int):=(decide ((z186 z177 c0) < (0:Int)))
def qci (c0:Int):=((qqc z177 c0)&&true)
def qxQ (_n:Nat) (c0:Int):OA :=
 bif (decide (0≤c0)) then bif (decide (c0 < (128:Int))) then bif (decide (c0 < (128:Int))) then qV (UInt8.ofNat (IntKind.wrap .u8 c0).toNat) true else bif (decide (c0 < (256:Int))) then qV (0:UInt8) false else bif (qci c0) then bif (qch c0) then qV (0:UInt8) false else qV (qcg c0) true else none else bif (decide ((160:Int)≤c0)) then bif (decide (c0 < (256:Int))) then qV (UInt8.ofNat (IntKind.wrap .u8 c0).toNat) true else bif (decide (c0 < (256:Int))) then qV (0:UInt8) false else bif (qci c0) then bif (qch c0) then qV (0:UInt8) false else qV (qcg c0) true else none else bif (decide (c0 < (256:Int))) then qV (0:UInt8) false else bif (qci c0) then bif (qch c0) then qV (0:UInt8) false else qV (qcg c0) true else none else bif (decide ((160:Int)≤c0)) then bif (decide (c0 < (256:Int))) then qV (UInt8.ofNat (IntKind.wrap .u8 c0).toNat) true else bif (decide (c0 < (256:Int))) then qV (0:UInt8) false else bif (qci c0) then bif (qch c0) then qV (0:UInt8) false else qV (qcg c0) true else none else bif (decide (c0 < (256:Int))) then qV (0:UInt8) false else bif (qci c0) then bif (qch c0) then qV (0:UInt8) false else qV (qcg c0) true else none
def qxR (s2:Bool):OA:=some (dg s2)
def qDU (_n:Nat) (c0:Int):OA :=
 qxR ((z129 c0).2)
def qoV (s2:Bool):OA:=some (dg s2)
def qxS (_n:Nat) (c0:Int):OA :=
 bif (decide ((55296:Int)≤c0)) then
 qoV (decide (c0≤(57343:Int)))
 else
 qoV false
def qoW (s2:Bool):OA:=some (dg s2)
def qxT (_n:Nat) (c0:Int):OA :=
 bif (decide ((IntKind.wrap .u32 c0)≤(1114111:Int))) then
 qoW (!(z211 c0))
 else
 qoW false
def qdb (s4:Bool):OA:=some (dg s4)
def qxU (_n:Nat) (charset0:Int) (c1:Int):OA :=
 bif (charset0==(1:Int)) then
 bif (decide (0≤c1)) then
 qdb (decide (c1 < (128:Int)))
 else
 qdb false
 else
 bif (charset0==(2:Int)) then
 qdb (z158 c1)
 else
 bif (charset0==(3:Int)) then
 qdb (z159 c1)
 else
 bif (charset0==(4:Int)) then
 qdb (z160 c1)
 else
 bif (charset0==(5:Int)) then
 qdb (z161 c1)
 else
 qdb false
def qik (s4:Int):OA:=some (dc s4)
def qds (ret:Int→OA) (k0:OA) (next:Int→LI→Int→Int→OA) (_n:Nat) (charset0:Int) (s7:LI) (s8:Int) (s9:Int):OA :=
 bif (decide (s9 < s8)) then
 bif ((decide (0≤s9))&&(decide (s9 < s7.length))) then
 bif (!(z105 charset0 (s7.getD s9.toNat 0))) then
 ret s9
 else
 next charset0 s7 s8 (IntKind.wrap .i64 (s9+1))
 else none
 else
 k0
def qil (ret:Int→OA) (k0:OA):Nat→Int→LI→Int→Int→OA
 | 0=>fun _ _ _ _=>none
 | n+1=>qds ret k0 (qil ret k0 n) n
def qeL (_n:Nat):OA :=
 qik (-1:Int)
def qrc (n:Nat) (charset0:Int) (t1:LI):OA :=
 qil qik (qeL n) n charset0 t1 (t1.length:Int) (0:Int)
def qxV (s4:Bool):OA:=some (dg s4)
def qFR (_n:Nat) (charset0:Int) (t1:LI):OA :=
 bif (decide ((0:Int) < (z65 charset0))) then
 bif ((qqj charset0 t1)&&true) then
 qxV ((z124 charset0 t1)==(-1:Int))
 else none
 else
 qxV false
def qxW (s2:Bool):OA:=some (dg s2)
def qDV (_n:Nat) (c0:Int):OA :=
 qxW (!(z161 c0))
def qim (s4:Int):OA:=some (dc s4)
def qdt (ret:Int→OA) (k0:OA) (next:LI→Int→Int→OA) (_n:Nat) (s0:LI) (s7:Int) (s8:Int):OA :=
 bif (decide (s8 < s7)) then
 bif ((decide (0≤s8))&&(decide (s8 < s0.length))) then
 bif (z224 (s0.getD s8.toNat 0)) then
 ret s8
 else
 next s0 s7 (IntKind.wrap .i64 (s8+1))
 else none
 else
 k0
def qin (ret:Int→OA) (k0:OA):Nat→LI→Int→Int→OA
 | 0=>fun _ _ _=>none
 | n+1=>qdt ret k0 (qin ret k0 n) n
def qeM (_n:Nat):OA :=
 qim (-1:Int)
def qrd (n:Nat) (s0:LI):OA :=
 qin qim (qeM n) n s0 (s0.length:Int) (0:Int)
def qxX (s2:Int):OA:=some (dc s2)
def qxY (_n:Nat) (t0:LI):OA :=
 bif ((qqd t0)&&true) then
 qxX (z223 t0)
 else none
def qxZ (s2:Bool):OA:=some (dg s2)
def qya (_n:Nat) (t0:LI):OA :=
 bif ((qqe t0)&&true) then
 qxZ ((z183 t0)==(-1:Int))
 else none
def qfF (s2:Int):OA:=some (dc s2)
def qyb (_n:Nat) (c0:Int):OA :=
 bif (!(z161 c0)) then
 qfF (0:Int)
 else
 bif (decide (c0 < (128:Int))) then
 qfF (1:Int)
 else
 bif (decide (c0 < (2048:Int))) then
 qfF (2:Int)
 else
 bif (decide (c0 < (65536:Int))) then
 qfF (3:Int)
 else
 qfF (4:Int)
def qfG (s4:LU) (s5:Int):OA:=some (.tup [(da s4),(dc s5)])
def qio (c1:Int):=([((z185 (z184 c1)) ||| (UInt8.ofNat (IntKind.wrap .u8 (Int.fdiv c1 (2 ^ (min (IntKind.wrap .i64 ((6:Int)*(IntKind.wrap .i64 ((z184 c1) - (1:Int))))).toNat (IntKind.bits .i32))))).toNat))]:LU)
def qbF (c1:Int):=([((128:UInt8) ||| ((UInt8.ofNat (IntKind.wrap .u8 (Int.fdiv c1 (2 ^ (min (6:Int).toNat (IntKind.bits .i32))))).toNat) &&& (63:UInt8)))]:LU)
def qdc (c1:Int):=([((128:UInt8) ||| ((UInt8.ofNat (IntKind.wrap .u8 (Int.fdiv c1 (2 ^ (min (12:Int).toNat (IntKind.bits .i32))))).toNat) &&& (63:UInt8)))]:LU)
def qbG (c1:Int):=([((128:UInt8) ||| ((UInt8.ofNat (IntKind.wrap .u8 c1).toNat) &&& (63:UInt8)))]:LU)
def qae (b0:LU) (c1:Int):=((z153 b0)++(qio c1))
def qyc (_n:Nat) (b0:LU) (c1:Int):OA :=
 bif ((z184 c1)==(0:Int)) then qfG ([]:LU) (7:Int) else bif (decide (0≤(IntKind.wrap .i64 ((6:Int)*(IntKind.wrap .i64 ((z184 c1) - (1:Int))))))) then bif ((qdM b0)&&true) then bif (decide (List.length (z153 b0)+List.length (qio c1)≤room)) then bif ((z184 c1)==(4:Int)) then bif (decide (List.length (qae b0 c1)+List.length (qdc c1)≤room)) then bif (decide (List.length ((qae b0 c1)++(qdc c1))+List.length (qbF c1)≤room)) then bif (decide (List.length (((qae b0 c1)++(qdc c1))++(qbF c1))+List.length (qbG c1)≤room)) then qfG ((((qae b0 c1)++(qdc c1))++(qbF c1))++(qbG c1)) (0:Int) else none else none else none else bif ((z184 c1)==(3:Int)) then bif (decide (List.length (qae b0 c1)+List.length (qbF c1)≤room)) then bif (decide (List.length ((qae b0 c1)++(qbF c1))+List.length (qbG c1)≤room)) then qfG (((qae b0 c1)++(qbF c1))++(qbG c1)) (0:Int) else none else none else bif ((z184 c1)==(2:Int)) then bif (decide (List.length (qae b0 c1)+List.length (qbG c1)≤room)) then qfG ((qae b0 c1)++(qbG c1)) (0:Int) else none else qfG (qae b0 c1) (0:Int) else none else none else none
def qyd (s2:LU) (s3:Int):OA:=some (.tup [(da s2),(dc s3)])
def qfH (k0:LU→OA) (next:LU→LI→Int→Int→OA) (_n:Nat) (out4:LU) (s12:LI) (s13:Int) (s14:Int):OA :=
 bif (decide (s14 < s13)) then
 bif ((decide (0≤s14))&&(decide (s14 < s12.length))) then
 bif ((qqg ([]:LU) (s12.getD s14.toNat 0))&&true) then
 bif (decide (out4.length+List.length ((z126 ([]:LU) (s12.getD s14.toNat 0)).1)≤room)) then
 next (out4++((z126 ([]:LU) (s12.getD s14.toNat 0)).1)) s12 s13 (IntKind.wrap .i64 (s14+1))
 else none
 else none
 else none
 else
 k0 out4
def qoX (k0:LU→OA):Nat→LU→LI→Int→Int→OA
 | 0=>fun _ _ _ _=>none
 | n+1=>qfH k0 (qoX k0 n) n
def qfI (_n:Nat) (out4:LU):OA :=
 qyd out4 (0:Int)
def qBH (n:Nat) (t0:LI):OA :=
 bif ((qqf t0)&&true) then
 bif (!(z125 t0)) then
 qyd ([]:LU) (7:Int)
 else
 qoX (qfI n) n ([]:LU) t0 (t0.length:Int) (0:Int)
 else none
def qjm (s2:LU) (s3:Int):OA:=some (.tup [(da s2),(dc s3)])
def qfJ (ret:LU→Int→OA) (k0:LU→OA) (next:LU→LI→Int→Int→OA) (_n:Nat) (s4:LU) (s9:LI) (s10:Int) (s11:Int):OA :=
 bif (decide (s11 < s10)) then
 bif ((decide (0≤s11))&&(decide (s11 < s9.length))) then
 bif (!((z127 (s9.getD s11.toNat 0)).2)) then
 ret ([]:LU) (9:Int)
 else
 bif (decide (s4.length+List.length ([((z127 (s9.getD s11.toNat 0)).1)]:LU)≤room)) then
 next (s4++([((z127 (s9.getD s11.toNat 0)).1)]:LU)) s9 s10 (IntKind.wrap .i64 (s11+1))
 else none
 else none
 else
 k0 s4
def qoY (ret:LU→Int→OA) (k0:LU→OA):Nat→LU→LI→Int→Int→OA
 | 0=>fun _ _ _ _=>none
 | n+1=>qfJ ret k0 (qoY ret k0 n) n
def qfK (_n:Nat) (s4:LU):OA :=
 qjm s4 (0:Int)
def qBI (n:Nat) (t0:LI):OA :=
 qoY qjm (qfK n) n ([]:LU) t0 (t0.length:Int) (0:Int)
def qip (s2:Int):OA:=some (dc s2)
def qdu (ret:Int→OA) (k0:OA) (next:LI→Int→Int→OA) (_n:Nat) (s5:LI) (s6:Int) (s7:Int):OA :=
 bif (decide (s7 < s6)) then
 bif ((decide (0≤s7))&&(decide (s7 < s5.length))) then
 bif (!(z160 (s5.getD s7.toNat 0))) then
 ret s7
 else
 next s5 s6 (IntKind.wrap .i64 (s7+1))
 else none
 else
 k0
def qiq (ret:Int→OA) (k0:OA):Nat→LI→Int→Int→OA
 | 0=>fun _ _ _=>none
 | n+1=>qdu ret k0 (qiq ret k0 n) n
def qeN (_n:Nat):OA :=
 qip (-1:Int)
def qre (n:Nat) (t0:LI):OA :=
 qiq qip (qeN n) n t0 (t0.length:Int) (0:Int)
def qye (s2:LU) (s3:Int):OA:=some (.tup [(da s2),(dc s3)])
def qfL (k0:LU→OA) (next:LU→LI→Int→Int→OA) (_n:Nat) (s4:LU) (s15:LI) (s16:Int) (s17:Int):OA :=
 bif (decide (s17 < s16)) then
 bif ((decide (0≤s17))&&(decide (s17 < s15.length))) then
 bif (decide (s4.length+List.length ([((z129 (s15.getD s17.toNat 0)).1)]:LU)≤room)) then
 next (s4++([((z129 (s15.getD s17.toNat 0)).1)]:LU)) s15 s16 (IntKind.wrap .i64 (s17+1))
 else none
 else none
 else
 k0 s4
def qoZ (k0:LU→OA):Nat→LU→LI→Int→Int→OA
 | 0=>fun _ _ _ _=>none
 | n+1=>qfL k0 (qoZ k0 n) n
def qfM (_n:Nat) (s4:LU):OA :=
 qye s4 (0:Int)
def qBJ (n:Nat) (t0:LI):OA :=
 bif ((qqh t0)&&true) then
 bif (decide (0≤(z128 t0))) then
 qye ([]:LU) (9:Int)
 else
 bif (((decide (0≤(0:Int)))&&(decide (0≤(t0.length:Int))))&&(decide ((t0.length:Int)≤(room:Int)))) then
 qoZ (qfM n) n (List.replicate (0:Int).toNat (0:UInt8)) t0 (t0.length:Int) (0:Int)
 else none
 else none
def qir (s2:Int):OA:=some (dc s2)
def qdv (ret:Int→OA) (k0:OA) (next:LI→Int→Int→OA) (_n:Nat) (t0:LI) (s5:Int) (s6:Int):OA :=
 bif (decide (s6 < s5)) then
 bif ((decide (0≤s6))&&(decide (s6 < t0.length))) then
 bif (!(z158 (t0.getD s6.toNat 0))) then
 ret s6
 else
 next t0 s5 (IntKind.wrap .i64 (s6+1))
 else none
 else
 k0
def qis (ret:Int→OA) (k0:OA):Nat→LI→Int→Int→OA
 | 0=>fun _ _ _=>none
 | n+1=>qdv ret k0 (qis ret k0 n) n
def qeO (_n:Nat):OA :=
 qir (-1:Int)
def qrf (n:Nat) (t0:LI):OA :=
 qis qir (qeO n) n t0 (t0.length:Int) (0:Int)
def qyf (s2:LU) (s3:Int):OA:=some (.tup [(da s2),(dc s3)])
def qfN (k0:LU→OA) (next:LU→LI→Int→Int→OA) (_n:Nat) (s4:LU) (s13:LI) (s14:Int) (s15:Int):OA :=
 bif (decide (s15 < s14)) then
 bif ((decide (0≤s15))&&(decide (s15 < s13.length))) then
 bif ((decide (0≤s15))&&(decide (s15 < s4.length))) then
 next (List.set s4 s15.toNat (UInt8.ofNat (IntKind.wrap .u8 (s13.getD s15.toNat 0)).toNat)) s13 s14 (IntKind.wrap .i64 (s15+1))
 else none
 else none
 else
 k0 s4
def qlg (k0:LU→OA):Nat→LU→LI→Int→Int→OA
 | 0=>fun _ _ _ _=>none
 | n+1=>qfN k0 (qlg k0 n) n
def qfO (_n:Nat) (s4:LU):OA :=
 qyf s4 (0:Int)
def qBK (n:Nat) (t0:LI):OA :=
 bif ((qqi t0)&&true) then
 bif ((z130 t0) != (-1:Int)) then
 qyf ([]:LU) (9:Int)
 else
 bif (((decide (0≤(t0.length:Int)))&&(decide ((t0.length:Int)≤(t0.length:Int))))&&(decide ((t0.length:Int)≤(room:Int)))) then
 qlg (qfO n) n (List.replicate (t0.length:Int).toNat (0:UInt8)) t0 (t0.length:Int) (0:Int)
 else none
 else none
def qit (s4:LU) (s5:Int):OA:=some (.tup [(da s4),(dc s5)])
def qFS (_n:Nat) (charset0:Int) (t1:LI):OA :=
 bif ((z65 charset0)==(0:Int)) then
 qit ([]:LU) (10:Int)
 else
 bif ((qzM charset0 t1)&&true) then
 bif (!(z66 charset0 t1)) then
 qit ([]:LU) (9:Int)
 else
 bif (charset0==(5:Int)) then
 bif ((qzL t1)&&true) then
 qit ((z67 t1).1) ((z67 t1).2)
 else none
 else
 bif (charset0==(3:Int)) then
 bif ((qzJ t1)&&true) then
 qit ((z68 t1).1) ((z68 t1).2)
 else none
 else
 bif (charset0==(4:Int)) then
 bif ((qzK t1)&&true) then
 qit ((z69 t1).1) ((z69 t1).2)
 else none
 else
 bif ((qzI t1)&&true) then
 qit ((z70 t1).1) ((z70 t1).2)
 else none
 else none
def qdd (s6:LU) (s7:Int):OA:=some (.tup [(da s6),(dc s7)])
def qFT (_n:Nat) (coding0:Int) (charset1:Int) (t2:LI):OA :=
 bif (coding0==(1:Int)) then
 bif ((qsh charset1 t2)&&true) then
 bif (((z31 charset1 t2).2) != (0:Int)) then
 qdd ([]:LU) ((z31 charset1 t2).2)
 else
 bif ((qBq ((z31 charset1 t2).1))&&true) then
 bif (((z60 ((z31 charset1 t2).1)).2) != (0:Int)) then
 qdd ([]:LU) ((z60 ((z31 charset1 t2).1)).2)
 else
 qdd ((z60 ((z31 charset1 t2).1)).1) (0:Int)
 else none
 else none
 else
 bif (coding0==(2:Int)) then
 bif ((qsh charset1 t2)&&true) then
 bif (((z31 charset1 t2).2) != (0:Int)) then
 qdd ([]:LU) ((z31 charset1 t2).2)
 else
 bif ((qBr ((z31 charset1 t2).1))&&true) then
 bif (((z61 ((z31 charset1 t2).1)).2) != (0:Int)) then
 qdd ([]:LU) ((z61 ((z31 charset1 t2).1)).2)
 else
 qdd ((z61 ((z31 charset1 t2).1)).1) (0:Int)
 else none
 else none
 else
 bif (coding0==(3:Int)) then
 bif ((qsh charset1 t2)&&true) then
 bif (((z31 charset1 t2).2) != (0:Int)) then
 qdd ([]:LU) ((z31 charset1 t2).2)
 else
 bif ((qBs ((z31 charset1 t2).1))&&true) then
 bif (((z63 ((z31 charset1 t2).1)).2) != (0:Int)) then
 qdd ([]:LU) ((z63 ((z31 charset1 t2).1)).2)
 else
 qdd ((z63 ((z31 charset1 t2).1)).1) (0:Int)
 else none
 else none
 else
 qdd ([]:LU) (11:Int)
def qjn (s4:Bool):OA:=some (dg s4)
def qfP (ret:Bool→OA) (k0:OA) (next:LI→LI→Int→OA) (_n:Nat) (a0:LI) (b1:LI) (i5:Int):OA :=
 bif (decide (i5 < (a0.length:Int))) then
 bif ((decide (0≤i5))&&(decide (i5 < a0.length))) then
 bif ((decide (0≤i5))&&(decide (i5 < b1.length))) then
 bif ((a0.getD i5.toNat 0) != (b1.getD i5.toNat 0)) then
 ret false
 else
 next a0 b1 (IntKind.wrap .i64 (i5+1))
 else none
 else none
 else
 k0
def qlh (ret:Bool→OA) (k0:OA):Nat→LI→LI→Int→OA
 | 0=>fun _ _ _=>none
 | n+1=>qfP ret k0 (qlh ret k0 n) n
def qli (_n:Nat):OA :=
 qjn true
def qBL (n:Nat) (a0:LI) (b1:LI):OA :=
 bif ((a0.length:Int) != (b1.length:Int)) then
 qjn false
 else
 qlh qjn (qli n) n a0 b1 (0:Int)
def qjo (s4:Bool):OA:=some (dg s4)
def qfQ (ret:Bool→OA) (k0:OA) (next:LU→LU→Int→OA) (_n:Nat) (a0:LU) (b1:LU) (i5:Int):OA :=
 bif (decide (i5 < (a0.length:Int))) then
 bif ((decide (0≤i5))&&(decide (i5 < a0.length))) then
 bif ((decide (0≤i5))&&(decide (i5 < b1.length))) then
 bif ((a0.getD i5.toNat (0:UInt8)) != (b1.getD i5.toNat (0:UInt8))) then
 ret false
 else
 next a0 b1 (IntKind.wrap .i64 (i5+1))
 else none
 else none
 else
 k0
def qlj (ret:Bool→OA) (k0:OA):Nat→LU→LU→Int→OA
 | 0=>fun _ _ _=>none
 | n+1=>qfQ ret k0 (qlj ret k0 n) n
def qlk (_n:Nat):OA :=
 qjo true
def qBM (n:Nat) (a0:LU) (b1:LU):OA :=
 bif ((a0.length:Int) != (b1.length:Int)) then
 qjo false
 else
 qlj qjo (qlk n) n a0 b1 (0:Int)
def qyg (s2:Bool):OA:=some (dg s2)
def qFU (_n:Nat) (c0:Int):OA :=
 bif (decide ((55296:Int)≤c0)) then
 qyg (decide (c0≤(57343:Int)))
 else
 qyg false
def qrg (s2:Bool):OA:=some (dg s2)
def qFV (_n:Nat) (c0:Int):OA :=
 bif (decide (0≤c0)) then
 bif (decide (c0≤(1114111:Int))) then
 qrg (!(z77 c0))
 else
 qrg false
 else
 qrg false
def qyh (s2:Int):OA:=some (di s2 none)
def qDW (_n:Nat) (x0:UInt8):OA :=
 qyh (IntKind.wrap .i32 ((UInt8.toNat x0:Nat):Int))
def qll (s2:UInt8) (s3:Bool):OA:=some (.tup [(dm s2),(dg s3)])
def qgR (ret:UInt8→Bool→OA) (k0:OA) (next:Int→Int→OA) (_n:Nat) (c0:Int) (n4:Int):OA :=
 bif (decide (n4 < (256:Int))) then
 bif ((z187 (UInt8.ofNat (IntKind.wrap .u8 n4).toNat))==c0) then
 bif (c0 != (65533:Int)) then
 ret (UInt8.ofNat (IntKind.wrap .u8 n4).toNat) true
 else
 next c0 (IntKind.wrap .i64 (n4+1))
 else
 next c0 (IntKind.wrap .i64 (n4+1))
 else
 k0
def qgl (ret:UInt8→Bool→OA) (k0:OA):Nat→Int→Int→OA
 | 0=>fun _ _=>none
 | n+1=>qgR ret k0 (qgl ret k0 n) n
def qgS (_n:Nat):OA :=
 qll (0:UInt8) false
def qrh (n:Nat) (c0:Int):OA :=
 qgl qll (qgS n) n c0 (0:Int)
def qdO (s2:Int):OA:=some (di s2 none)
def qFW (_n:Nat) (x0:UInt8):OA :=
 bif (x0==(164:UInt8)) then
 qdO (8364:Int)
 else
 bif (x0==(166:UInt8)) then
 qdO (352:Int)
 else
 bif (x0==(168:UInt8)) then
 qdO (353:Int)
 else
 bif (x0==(180:UInt8)) then
 qdO (381:Int)
 else
 bif (x0==(184:UInt8)) then
 qdO (382:Int)
 else
 bif (x0==(188:UInt8)) then
 qdO (338:Int)
 else
 bif (x0==(189:UInt8)) then
 qdO (339:Int)
 else
 bif (x0==(190:UInt8)) then
 qdO (376:Int)
 else
 qdO (IntKind.wrap .i32 ((UInt8.toNat x0:Nat):Int))
def qiu (s2:UInt8) (s3:Bool):OA:=some (.tup [(dm s2),(dg s3)])
def qgT (ret:UInt8→Bool→OA) (k0:OA) (next:Int→Int→OA) (_n:Nat) (c0:Int) (n4:Int):OA :=
 bif (decide (n4 < (256:Int))) then
 bif ((z90 (UInt8.ofNat (IntKind.wrap .u8 n4).toNat))==c0) then
 bif (c0 != (65533:Int)) then
 ret (UInt8.ofNat (IntKind.wrap .u8 n4).toNat) true
 else
 next c0 (IntKind.wrap .i64 (n4+1))
 else
 next c0 (IntKind.wrap .i64 (n4+1))
 else
 k0
def qiv (ret:UInt8→Bool→OA) (k0:OA):Nat→Int→Int→OA
 | 0=>fun _ _=>none
 | n+1=>qgT ret k0 (qiv ret k0 n) n
def qeP (_n:Nat):OA :=
 qiu (0:UInt8) false
def qri (n:Nat) (c0:Int):OA :=
 qiv qiu (qeP n) n c0 (0:Int)
def qrj (s2:Int):OA:=some (di s2 none)
def qlm:=([(8364:Int),(65533:Int),(8218:Int),(402:Int),(8222:Int),(8230:Int),(8224:Int),(8225:Int),(710:Int),(8240:Int),(352:Int),(8249:Int),(338:Int),(65533:Int),(381:Int),(65533:Int),(65533:Int),(8216:Int),(8217:Int),(8220:Int),(8221:Int),(8226:Int),(8211:Int),(8212:Int),(732:Int),(8482:Int),(353:Int),(8250:Int),(339:Int),(65533:Int),(382:Int),(376:Int)]:LI)
def qFX (_n:Nat) (x0:UInt8):OA :=
 bif (decide (x0 < (128:UInt8))) then qrj (IntKind.wrap .i32 ((UInt8.toNat x0:Nat):Int)) else bif (decide ((159:UInt8) < x0)) then qrj (IntKind.wrap .i32 ((UInt8.toNat x0:Nat):Int)) else bif ((decide (0≤((UInt8.toNat (x0 - (128:UInt8)):Nat):Int)))&&(decide (((UInt8.toNat (x0 - (128:UInt8)):Nat):Int) < (qlm).length))) then qrj ((qlm).getD ((UInt8.toNat (x0 - (128:UInt8)):Nat):Int).toNat 0) else none
def qiw (s2:UInt8) (s3:Bool):OA:=some (.tup [(dm s2),(dg s3)])
def qgU (ret:UInt8→Bool→OA) (k0:OA) (next:Int→Int→OA) (_n:Nat) (c0:Int) (n4:Int):OA :=
 bif (decide (n4 < (256:Int))) then
 bif ((z91 (UInt8.ofNat (IntKind.wrap .u8 n4).toNat))==c0) then
 bif (c0 != (65533:Int)) then
 ret (UInt8.ofNat (IntKind.wrap .u8 n4).toNat) true
 else
 next c0 (IntKind.wrap .i64 (n4+1))
 else
 next c0 (IntKind.wrap .i64 (n4+1))
 else
 k0
def qix (ret:UInt8→Bool→OA) (k0:OA):Nat→Int→Int→OA
 | 0=>fun _ _=>none
 | n+1=>qgU ret k0 (qix ret k0 n) n
def qeQ (_n:Nat):OA :=
 qiw (0:UInt8) false
def qrk (n:Nat) (c0:Int):OA :=
 qix qiw (qeQ n) n c0 (0:Int)
def qde (s4:Bool):OA:=some (dg s4)
def qyi (_n:Nat) (charset0:Int) (c1:Int):OA :=
 bif (charset0==(1:Int)) then
 bif (decide (0≤c1)) then
 qde (decide (c1 < (128:Int)))
 else
 qde false
 else
 bif (charset0==(2:Int)) then
 qde ((z132 c1).2)
 else
 bif (charset0==(3:Int)) then
 qde ((z133 c1).2)
 else
 bif (charset0==(4:Int)) then
 qde ((z134 c1).2)
 else
 bif (charset0==(5:Int)) then
 qde (z36 c1)
 else
 qde false
def qfR (s2:LU):OA:=some (db s2 (some (2,5)))
def qeR (c0:Int):=(UInt8.ofNat (IntKind.wrap .u8 (IntKind.wrap .i64 ((128:Int)+(Int.tmod (IntKind.wrap .i64 c0) (64:Int))))).toNat)
def qiy (c0:Int):=(UInt8.ofNat (IntKind.wrap .u8 (IntKind.wrap .i64 ((128:Int)+(Int.tmod (IntKind.wrap .i64 (Int.tdiv (IntKind.wrap .i64 c0) (64:Int))) (64:Int))))).toNat)
def qyj (_n:Nat) (c0:Int):OA :=
 bif (!(z36 c0)) then qfR ([]:LU) else bif (decide ((IntKind.wrap .i64 c0) < (128:Int))) then qfR ([(UInt8.ofNat (IntKind.wrap .u8 (IntKind.wrap .i64 c0)).toNat)]:LU) else bif (decide ((IntKind.wrap .i64 c0) < (2048:Int))) then qfR ([(UInt8.ofNat (IntKind.wrap .u8 (IntKind.wrap .i64 ((192:Int)+(IntKind.wrap .i64 (Int.tdiv (IntKind.wrap .i64 c0) (64:Int)))))).toNat),(qeR c0)]:LU) else bif (decide ((IntKind.wrap .i64 c0) < (65536:Int))) then qfR ([(UInt8.ofNat (IntKind.wrap .u8 (IntKind.wrap .i64 ((224:Int)+(IntKind.wrap .i64 (Int.tdiv (IntKind.wrap .i64 c0) (4096:Int)))))).toNat),(qiy c0),(qeR c0)]:LU) else qfR ([(UInt8.ofNat (IntKind.wrap .u8 (IntKind.wrap .i64 ((240:Int)+(IntKind.wrap .i64 (Int.tdiv (IntKind.wrap .i64 c0) (262144:Int)))))).toNat),(UInt8.ofNat (IntKind.wrap .u8 (IntKind.wrap .i64 ((128:Int)+(Int.tmod (IntKind.wrap .i64 (Int.tdiv (IntKind.wrap .i64 c0) (4096:Int))) (64:Int))))).toNat),(qiy c0),(qeR c0)]:LU)
def qiz (s4:LU):OA:=some (db s4 (some (4,5)))
def qFY (_n:Nat) (charset0:Int) (c1:Int):OA :=
 bif (!(z131 charset0 c1)) then
 qiz ([]:LU)
 else
 bif (charset0==(1:Int)) then
 qiz ([(UInt8.ofNat (IntKind.wrap .u8 c1).toNat)]:LU)
 else
 bif (charset0==(2:Int)) then
 qiz ([((z132 c1).1)]:LU)
 else
 bif (charset0==(3:Int)) then
 qiz ([((z133 c1).1)]:LU)
 else
 bif (charset0==(4:Int)) then
 qiz ([((z134 c1).1)]:LU)
 else
 qiz (z135 c1)
def qgm (s4:LU) (s5:Int):OA:=some (.tup [(da s4),(dc s5)])
def qfS (ret:LU→Int→OA) (k0:LU→OA) (next:Int→LI→LU→Int→OA) (_n:Nat) (charset0:Int) (t1:LI) (out6:LU) (i7:Int):OA :=
 bif (decide (i7 < (t1.length:Int))) then
 bif ((decide (0≤i7))&&(decide (i7 < t1.length))) then
 bif (((z71 charset0 (t1.getD i7.toNat 0)).length:Int)==(0:Int)) then
 ret ([]:LU) (9:Int)
 else
 bif (decide (out6.length+List.length (z71 charset0 (t1.getD i7.toNat 0))≤room)) then
 next charset0 t1 (out6++(z71 charset0 (t1.getD i7.toNat 0))) (IntKind.wrap .i64 (i7+1))
 else none
 else none
 else
 k0 out6
def qpa (ret:LU→Int→OA) (k0:LU→OA):Nat→Int→LI→LU→Int→OA
 | 0=>fun _ _ _ _=>none
 | n+1=>qfS ret k0 (qpa ret k0 n) n
def qfT (_n:Nat) (out6:LU):OA :=
 qgm out6 (0:Int)
def qBN (n:Nat) (charset0:Int) (t1:LI):OA :=
 bif (decide (charset0 < (1:Int))) then
 qgm ([]:LU) (10:Int)
 else
 bif (decide ((5:Int) < charset0)) then
 qgm ([]:LU) (10:Int)
 else
 qpa qgm (qfT n) n charset0 t1 ([]:LU) (0:Int)
def qDX (s2:LU):OA:=some (db s2 (some (2,5)))
def qL:=([(13:UInt8),(10:UInt8)]:LU)
def qaS (s0:LU) (i4:Int):=((decide (0≤i4))&&(decide (i4 < s0.length)))
def qaw (s0:LU) (i4:Int):=(s0.getD i4.toNat (0:UInt8))
def qfU (k0:LU→OA) (next:LU→LU→Int→OA) (_n:Nat) (s0:LU) (out3:LU) (i4:Int):OA :=
 bif (decide (i4 < (s0.length:Int))) then bif (qaS s0 i4) then bif ((qaw s0 i4) != (13:UInt8)) then bif (qaS s0 i4) then bif ((qaw s0 i4) != (10:UInt8)) then bif (qaS s0 i4) then bif (decide (out3.length+List.length ([(qaw s0 i4)]:LU)≤room)) then next s0 (out3++([(qaw s0 i4)]:LU)) (IntKind.wrap .i64 (i4+1)) else none else none else bif (decide (out3.length+List.length (qL)≤room)) then bif (qaS s0 i4) then bif ((qaw s0 i4)==(13:UInt8)) then bif (decide ((IntKind.wrap .i64 (i4+1)) < (s0.length:Int))) then bif ((decide (0≤(IntKind.wrap .i64 (i4+1))))&&(decide ((IntKind.wrap .i64 (i4+1)) < s0.length))) then bif ((s0.getD (IntKind.wrap .i64 (i4+1)).toNat (0:UInt8))==(10:UInt8)) then next s0 (out3++(qL)) (IntKind.wrap .i64 ((IntKind.wrap .i64 (i4+1))+1)) else next s0 (out3++(qL)) (IntKind.wrap .i64 (i4+1)) else none else next s0 (out3++(qL)) (IntKind.wrap .i64 (i4+1)) else next s0 (out3++(qL)) (IntKind.wrap .i64 (i4+1)) else none else none else none else bif (decide (out3.length+List.length (qL)≤room)) then bif (qaS s0 i4) then bif ((qaw s0 i4)==(13:UInt8)) then bif (decide ((IntKind.wrap .i64 (i4+1)) < (s0.length:Int))) then bif ((decide (0≤(IntKind.wrap .i64 (i4+1))))&&(decide ((IntKind.wrap .i64 (i4+1)) < s0.length))) then bif ((s0.getD (IntKind.wrap .i64 (i4+1)).toNat (0:UInt8))==(10:UInt8)) then next s0 (out3++(qL)) (IntKind.wrap .i64 ((IntKind.wrap .i64 (i4+1))+1)) else next s0 (out3++(qL)) (IntKind.wrap .i64 (i4+1)) else none else next s0 (out3++(qL)) (IntKind.wrap .i64 (i4+1)) else next s0 (out3++(qL)) (IntKind.wrap .i64 (i4+1)) else none else none else none else k0 out3
def qne (k0:LU→OA):Nat→LU→LU→Int→OA
 | 0=>fun _ _ _=>none
 | n+1=>qfU k0 (qne k0 n) n
def qiA (_n:Nat) (out3:LU):OA :=
 qDX out3
def qBO (n:Nat) (s0:LU):OA :=
 qne (qiA n) n s0 ([]:LU) (0:Int)
def qfV (s4:Bool):OA:=some (dg s4)
def qdw (ret:Bool→OA) (k0:OA) (next:LU→UInt8→Int→OA) (_n:Nat) (s0:LU) (c1:UInt8) (i5:Int):OA :=
 bif (decide (i5 < (s0.length:Int))) then
 bif ((decide (0≤i5))&&(decide (i5 < s0.length))) then
 bif ((s0.getD i5.toNat (0:UInt8))==c1) then
 ret true
 else
 next s0 c1 (IntKind.wrap .i64 (i5+1))
 else none
 else
 k0
def qeS (ret:Bool→OA) (k0:OA):Nat→LU→UInt8→Int→OA
 | 0=>fun _ _ _=>none
 | n+1=>qdw ret k0 (qeS ret k0 n) n
def qeT (_n:Nat):OA :=
 qfV false
def qnf (n:Nat) (s0:LU) (c1:UInt8):OA :=
 qeS qfV (qeT n) n s0 c1 (0:Int)
def qyk (s4:Bool):OA:=some (dg s4)
def qDY (_n:Nat) (c0:UInt8) (kinds1:Int):OA :=
 qyk ((bits .and .i64 (z188 c0) kinds1) != (0:Int))
def qpb (s2:UInt8):OA:=some (dm s2)
def qeU (n0:Int):=(Int.tmod (IntKind.wrap .i64 ((Int.tmod n0 (16:Int))+(16:Int))) (16:Int))
def qyl (_n:Nat) (n0:Int):OA :=
 bif (decide ((qeU n0) < (10:Int))) then qpb (UInt8.ofNat (IntKind.wrap .u8 (IntKind.wrap .i64 ((48:Int)+(qeU n0)))).toNat) else qpb (UInt8.ofNat (IntKind.wrap .u8 (IntKind.wrap .i64 ((IntKind.wrap .i64 ((65:Int)+(qeU n0))) - (10:Int)))).toNat)
def qym (s6:LU):OA:=some (db s6 (some (6,5)))
def qdf (c2:UInt8):=(IntKind.wrap .i64 ((UInt8.toNat c2:Nat):Int))
def qiB (sign1:UInt8) (c2:UInt8):=([sign1,(z189 (IntKind.wrap .i64 (Int.tdiv (qdf c2) (16:Int)))),(z189 (Int.tmod (qdf c2) (16:Int)))]:LU)
def qyn (_n:Nat) (b0:LU) (sign1:UInt8) (c2:UInt8):OA :=
 bif (decide (List.length ([]:LU)+b0.length≤room)) then bif ((qdK (IntKind.wrap .i64 (Int.tdiv (qdf c2) (16:Int))))&&true) then bif ((qdK (Int.tmod (qdf c2) (16:Int)))&&true) then bif (decide (List.length (([]:LU)++b0)+List.length (qiB sign1 c2)≤room)) then qym ((([]:LU)++b0)++(qiB sign1 c2)) else none else none else none else none
def qgn (s4:LU):OA:=some (db s4 (some (4,5)))
def qeV (c0:UInt8):=((qqb ([]:LU) (61:UInt8) c0)&&true)
def qFZ (_n:Nat) (c0:UInt8) (ends1:Bool):OA :=
 bif (z136 c0 (4:Int)) then bif (c0 != (61:UInt8)) then qgn ([c0]:LU) else bif (z136 c0 (2:Int)) then bif (!ends1) then qgn ([c0]:LU) else bif (qeV c0) then qgn (z137 ([]:LU) (61:UInt8) c0) else none else bif (qeV c0) then qgn (z137 ([]:LU) (61:UInt8) c0) else none else bif (z136 c0 (2:Int)) then bif (!ends1) then qgn ([c0]:LU) else bif (qeV c0) then qgn (z137 ([]:LU) (61:UInt8) c0) else none else bif (qeV c0) then qgn (z137 ([]:LU) (61:UInt8) c0) else none
def qyo (s2:LU):OA:=some (db s2 (some (2,5)))
def qaj (b3:LU) (i6:Int):=(z73 (b3.getD i6.toNat (0:UInt8)) ((b3.getD (IntKind.wrap .i64 (i6+1)).toNat (0:UInt8))==(13:UInt8)))
def qax:=([(61:UInt8),(13:UInt8),(10:UInt8)]:LU)
def qak (b3:LU) (i6:Int):=(z73 (b3.getD i6.toNat (0:UInt8)) false)
def qfW (k0:LU→Int→OA) (next:LU→LU→Int→Int→OA) (_n:Nat) (b3:LU) (out4:LU) (long5:Int) (i6:Int):OA :=
 bif (decide (i6 < (b3.length:Int))) then bif ((decide (0≤i6))&&(decide (i6 < b3.length))) then bif ((b3.getD i6.toNat (0:UInt8))==(13:UInt8)) then bif (decide (out4.length+List.length ([(13:UInt8),(10:UInt8)]:LU)≤room)) then next b3 (out4++([(13:UInt8),(10:UInt8)]:LU)) (0:Int) (IntKind.wrap .i64 ((IntKind.wrap .i64 (i6+1))+1)) else none else bif ((decide (0≤i6))&&(decide (i6 < b3.length))) then bif (decide ((IntKind.wrap .i64 (i6+1)) < (b3.length:Int))) then bif ((decide (0≤(IntKind.wrap .i64 (i6+1))))&&(decide ((IntKind.wrap .i64 (i6+1)) < b3.length))) then bif (decide ((75:Int) < (IntKind.wrap .i64 (long5+((qaj b3 i6).length:Int))))) then bif (decide (out4.length+List.length (qax)≤room)) then bif (decide (List.length (out4++(qax))+List.length (qaj b3 i6)≤room)) then next b3 ((out4++(qax))++(qaj b3 i6)) (IntKind.wrap .i64 ((0:Int)+((qaj b3 i6).length:Int))) (IntKind.wrap .i64 (i6+1)) else none else none else bif (decide (out4.length+List.length (qaj b3 i6)≤room)) then next b3 (out4++(qaj b3 i6)) (IntKind.wrap .i64 (long5+((qaj b3 i6).length:Int))) (IntKind.wrap .i64 (i6+1)) else none else none else bif (decide ((75:Int) < (IntKind.wrap .i64 (long5+((qak b3 i6).length:Int))))) then bif (decide (out4.length+List.length (qax)≤room)) then bif (decide (List.length (out4++(qax))+List.length (qak b3 i6)≤room)) then next b3 ((out4++(qax))++(qak b3 i6)) (IntKind.wrap .i64 ((0:Int)+((qak b3 i6).length:Int))) (IntKind.wrap .i64 (i6+1)) else none else none else bif (decide (out4.length+List.length (qak b3 i6)≤room)) then next b3 (out4++(qak b3 i6)) (IntKind.wrap .i64 (long5+((qak b3 i6).length:Int))) (IntKind.wrap .i64 (i6+1)) else none else none else none else k0 out4 long5
def qln (k0:LU→Int→OA):Nat→LU→LU→Int→Int→OA
 | 0=>fun _ _ _ _=>none
 | n+1=>qfW k0 (qln k0 n) n
def qfX (_n:Nat) (out4:LU) (long5:Int):OA :=
 bif (decide ((0:Int) < long5)) then
 bif (decide (out4.length+List.length ([(61:UInt8),(13:UInt8),(10:UInt8)]:LU)≤room)) then
 qyo (out4++([(61:UInt8),(13:UInt8),(10:UInt8)]:LU))
 else none
 else
 qyo out4
def qBP (n:Nat) (s0:LU):OA :=
 bif ((qBA s0)&&true) then
 qln (qfX n) n (z72 s0) ([]:LU) (0:Int) (0:Int)
 else none
def qyp (s2:Int):OA:=some (dc s2)
def qdx (k0:Int→OA) (next:LI→Int→Int→OA) (_n:Nat) (l0:LI) (n3:Int) (i4:Int):OA :=
 bif (decide (i4 < (l0.length:Int))) then
 bif ((decide (0≤i4))&&(decide (i4 < l0.length))) then
 next l0 (IntKind.wrap .i64 ((IntKind.wrap .i64 ((2:Int)*n3))+(l0.getD i4.toNat 0))) (IntKind.wrap .i64 (i4+1))
 else none
 else
 k0 n3
def qiC (k0:Int→OA):Nat→LI→Int→Int→OA
 | 0=>fun _ _ _=>none
 | n+1=>qdx k0 (qiC k0 n) n
def qeW (_n:Nat) (n3:Int):OA :=
 qyp n3
def qrl (n:Nat) (l0:LI):OA :=
 qiC (qeW n) n l0 (0:Int) (0:Int)
def qyq (s2:LI):OA:=some (.dat (.sl (.int .i64)) s2 (some (2,3)))
def qct (s0:LU) (i4:Int) (k5:Int):=([(Int.tmod (IntKind.wrap .i64 ((UInt8.toNat (UInt8.ofNat (UInt8.toNat (s0.getD i4.toNat (0:UInt8)) / 2 ^ (min k5.toNat 8))):Nat):Int)) (2:Int))]:LI)
def qdy (k2:LU→LI→Int→OA) (next:LU→LI→Int→Int→OA) (_n:Nat) (s0:LU) (out3:LI) (i4:Int) (k5:Int):OA :=
 bif (decide (0≤k5)) then bif ((decide (0≤i4))&&(decide (i4 < s0.length))) then bif (decide (0≤k5)) then bif (decide (out3.length+List.length (qct s0 i4 k5)≤room)) then next s0 (out3++(qct s0 i4 k5)) i4 (IntKind.wrap .i64 (k5 - (1:Int))) else none else none else none else k2 s0 out3 i4
def qeX (k2:LU→LI→Int→OA):Nat→LU→LI→Int→Int→OA
 | 0=>fun _ _ _ _=>none
 | n+1=>qdy k2 (qeX k2 n) n
def qeY (_k0:LI→OA) (next:LU→LI→Int→OA) (_n:Nat) (s0:LU) (out3:LI) (i4:Int):OA :=
 next s0 out3 (IntKind.wrap .i64 (i4+1))
def qcu (k0:LI→OA) (next:LU→LI→Int→OA) (n:Nat) (s0:LU) (out3:LI) (i4:Int):OA :=
 bif (decide (i4 < (s0.length:Int))) then
 qeX (qeY k0 next n) n s0 out3 i4 (7:Int)
 else
 k0 out3
def qiD (k0:LI→OA):Nat→LU→LI→Int→OA
 | 0=>fun _ _ _=>none
 | n+1=>qcu k0 (qiD k0 n) n
def qeZ (_n:Nat) (out3:LI):OA :=
 qyq out3
def qrm (n:Nat) (s0:LU):OA :=
 qiD (qeZ n) n s0 ([]:LI) (0:Int)
def qed (s2:UInt8):OA:=some (dm s2)
def qaY (n0:Int):=(Int.tmod (IntKind.wrap .i64 ((Int.tmod n0 (64:Int))+(64:Int))) (64:Int))
def qyr (_n:Nat) (n0:Int):OA :=
 bif (decide ((qaY n0) < (26:Int))) then qed (UInt8.ofNat (IntKind.wrap .u8 (IntKind.wrap .i64 ((65:Int)+(qaY n0)))).toNat) else bif (decide ((qaY n0) < (52:Int))) then qed (UInt8.ofNat (IntKind.wrap .u8 (IntKind.wrap .i64 ((IntKind.wrap .i64 ((97:Int)+(qaY n0))) - (26:Int)))).toNat) else bif (decide ((qaY n0) < (62:Int))) then qed (UInt8.ofNat (IntKind.wrap .u8 (IntKind.wrap .i64 ((IntKind.wrap .i64 ((48:Int)+(qaY n0))) - (52:Int)))).toNat) else bif ((qaY n0)==(62:Int)) then qed (43:UInt8) else qed (47:UInt8)
def qys (s2:LU):OA:=some (db s2 (some (2,5)))
def qgV (k0:LI→OA) (next:LI→OA) (_n:Nat) (l3:LI):OA :=
 bif ((Int.tmod (l3.length:Int) (6:Int)) != (0:Int)) then
 bif (decide (l3.length+List.length ([(0:Int)]:LI)≤room)) then
 next (l3++([(0:Int)]:LI))
 else none
 else
 k0 l3
def qiE (k0:LI→OA):Nat→LI→OA
 | 0=>fun _=>none
 | n+1=>qgV k0 (qiE k0 n) n
def qbH (l3:LI) (i5:Int):=(List.drop i5.toNat (List.take (IntKind.wrap .i64 (i5+(6:Int))).toNat l3))
def qdz (k2:LU→OA) (next:LI→LU→Int→OA) (_n:Nat) (l3:LI) (out4:LU) (i5:Int):OA :=
 bif (decide (i5 < (l3.length:Int))) then bif (((decide (0≤i5))&&(decide (i5≤(IntKind.wrap .i64 (i5+(6:Int))))))&&(decide ((IntKind.wrap .i64 (i5+(6:Int)))≤(l3.length:Int)))) then bif ((qjg (qbH l3 i5))&&true) then bif (decide (out4.length+List.length ([(z191 (z151 (qbH l3 i5)))]:LU)≤room)) then next l3 (out4++([(z191 (z151 (qbH l3 i5)))]:LU)) (IntKind.wrap .i64 (i5+(6:Int))) else none else none else none else k2 out4
def qiF (k2:LU→OA):Nat→LI→LU→Int→OA
 | 0=>fun _ _ _=>none
 | n+1=>qdz k2 (qiF k2 n) n
def qfa (_n:Nat) (out4:LU):OA :=
 qys out4
def qbi (n:Nat) (l3:LI):OA :=
 qiF (qfa n) n l3 ([]:LU) (0:Int)
def qrn (n:Nat) (s0:LU):OA :=
 bif ((qmj s0)&&true) then
 qiE (qbi n) n (z190 s0)
 else none
def qDZ (s2:LU):OA:=some (db s2 (some (2,5)))
def qlo (k0:LU→OA) (next:LU→OA) (_n:Nat) (out3:LU):OA :=
 bif ((Int.tmod (out3.length:Int) (4:Int)) != (0:Int)) then
 bif (decide (out3.length+List.length ([(61:UInt8)]:LU)≤room)) then
 next (out3++([(61:UInt8)]:LU))
 else none
 else
 k0 out3
def qpc (k0:LU→OA):Nat→LU→OA
 | 0=>fun _=>none
 | n+1=>qlo k0 (qpc k0 n) n
def qfY (_n:Nat) (out3:LU):OA :=
 qDZ out3
def qBQ (n:Nat) (s0:LU):OA :=
 bif ((qmk s0)&&true) then
 qpc (qfY n) n (z138 s0)
 else none
def qEa (s2:LU):OA:=some (db s2 (some (2,5)))
def qay (c3:LU) (i5:Int):=([(c3.getD i5.toNat (0:UInt8))]:LU)
def qbm:=([(13:UInt8),(10:UInt8)]:LU)
def qfZ (k0:LU→OA) (next:LU→LU→Int→OA) (_n:Nat) (c3:LU) (out4:LU) (i5:Int):OA :=
 bif (decide (i5 < (c3.length:Int))) then bif ((decide (0≤i5))&&(decide (i5 < c3.length))) then bif (decide (out4.length+List.length (qay c3 i5)≤room)) then bif ((Int.tmod i5 (76:Int))==(75:Int)) then bif (decide (List.length (out4++(qay c3 i5))+List.length (qbm)≤room)) then next c3 ((out4++(qay c3 i5))++(qbm)) (IntKind.wrap .i64 (i5+1)) else none else bif (i5==(IntKind.wrap .i64 ((c3.length:Int) - (1:Int)))) then bif (decide (List.length (out4++(qay c3 i5))+List.length (qbm)≤room)) then next c3 ((out4++(qay c3 i5))++(qbm)) (IntKind.wrap .i64 (i5+1)) else none else next c3 (out4++(qay c3 i5)) (IntKind.wrap .i64 (i5+1)) else none else none else k0 out4
def qlp (k0:LU→OA):Nat→LU→LU→Int→OA
 | 0=>fun _ _ _=>none
 | n+1=>qfZ k0 (qlp k0 n) n
def qiG (_n:Nat) (out4:LU):OA :=
 qEa out4
def qBR (n:Nat) (s0:LU):OA :=
 bif ((qsi s0)&&true) then
 qlp (qiG n) n (z74 s0) ([]:LU) (0:Int)
 else none
def qEb (s2:Int):OA:=some (dc s2)
def qga (k0:Int→OA) (next:LU→Int→Int→OA) (_n:Nat) (s0:LU) (n3:Int) (i4:Int):OA :=
 bif (decide (i4 < (s0.length:Int))) then
 bif ((decide (0≤i4))&&(decide (i4 < s0.length))) then
 bif ((s0.getD i4.toNat (0:UInt8))==(13:UInt8)) then
 bif ((IntKind.wrap .i64 (i4+1))==(s0.length:Int)) then
 next s0 (IntKind.wrap .i64 (n3+1)) (IntKind.wrap .i64 (i4+1))
 else
 bif ((decide (0≤(IntKind.wrap .i64 (i4+1))))&&(decide ((IntKind.wrap .i64 (i4+1)) < s0.length))) then
 bif ((s0.getD (IntKind.wrap .i64 (i4+1)).toNat (0:UInt8)) != (10:UInt8)) then
 next s0 (IntKind.wrap .i64 (n3+1)) (IntKind.wrap .i64 (i4+1))
 else
 bif ((decide (0≤i4))&&(decide (i4 < s0.length))) then
 bif ((s0.getD i4.toNat (0:UInt8))==(10:UInt8)) then
 bif (i4==(0:Int)) then
 next s0 (IntKind.wrap .i64 (n3+1)) (IntKind.wrap .i64 (i4+1))
 else
 bif ((decide (0≤(IntKind.wrap .i64 (i4 - (1:Int)))))&&(decide ((IntKind.wrap .i64 (i4 - (1:Int))) < s0.length))) then
 bif ((s0.getD (IntKind.wrap .i64 (i4 - (1:Int))).toNat (0:UInt8)) != (13:UInt8)) then
 next s0 (IntKind.wrap .i64 (n3+1)) (IntKind.wrap .i64 (i4+1))
 else
 next s0 n3 (IntKind.wrap .i64 (i4+1))
 else none
 else
 next s0 n3 (IntKind.wrap .i64 (i4+1))
 else none
 else none
 else
 bif ((decide (0≤i4))&&(decide (i4 < s0.length))) then
 bif ((s0.getD i4.toNat (0:UInt8))==(10:UInt8)) then
 bif (i4==(0:Int)) then
 next s0 (IntKind.wrap .i64 (n3+1)) (IntKind.wrap .i64 (i4+1))
 else
 bif ((decide (0≤(IntKind.wrap .i64 (i4 - (1:Int)))))&&(decide ((IntKind.wrap .i64 (i4 - (1:Int))) < s0.length))) then
 bif ((s0.getD (IntKind.wrap .i64 (i4 - (1:Int))).toNat (0:UInt8)) != (13:UInt8)) then
 next s0 (IntKind.wrap .i64 (n3+1)) (IntKind.wrap .i64 (i4+1))
 else
 next s0 n3 (IntKind.wrap .i64 (i4+1))
 else none
 else
 next s0 n3 (IntKind.wrap .i64 (i4+1))
 else none
 else none
 else
 k0 n3
def qiH (k0:Int→OA):Nat→LU→Int→Int→OA
 | 0=>fun _ _ _=>none
 | n+1=>qga k0 (qiH k0 n) n
def qiI (_n:Nat) (n3:Int):OA :=
 qEb n3
def qGa (n:Nat) (s0:LU):OA :=
 qiH (qiI n) n s0 (0:Int) (0:Int)
def qpd (s2:List LU) (s3:Bool):OA:=some (.tup [(.dat (.sl (.sl .byte)) s2 none),(dg s3)])
def qaf (out4:List LU):=(IntKind.wrap .i64 ((out4.length:Int) - (1:Int)))
def qas (out4:List LU):=((decide (0≤(qaf out4)))&&(decide ((qaf out4) < out4.length)))
def qcv (s0:LU) (out4:List LU) (i5:Int):=(List.set out4 (qaf out4).toNat ((out4.getD (qaf out4).toNat ([]:LU))++([(s0.getD i5.toNat (0:UInt8))]:LU)))
def qcw (s0:LU) (out4:List LU) (i5:Int):=(decide (List.length (out4.getD (qaf out4).toNat ([]:LU))+List.length ([(s0.getD i5.toNat (0:UInt8))]:LU)≤room))
def qbI (s0:LU) (i5:Int):=((decide (0≤i5))&&(decide (i5 < s0.length)))
def qcx (out4:List LU):=(((qaf out4).toNat==(qaf out4).toNat)&&true)
def qgW (k0:List LU→OA) (next:LU→List LU→Int→OA) (_n:Nat) (s0:LU) (out4:List LU) (i5:Int):OA :=
 bif (decide (i5 < (s0.length:Int))) then bif (qbI s0 i5) then bif ((s0.getD i5.toNat (0:UInt8))==(13:UInt8)) then bif (decide ((IntKind.wrap .i64 (i5+1)) < (s0.length:Int))) then bif ((decide (0≤(IntKind.wrap .i64 (i5+1))))&&(decide ((IntKind.wrap .i64 (i5+1)) < s0.length))) then bif ((s0.getD (IntKind.wrap .i64 (i5+1)).toNat (0:UInt8))==(10:UInt8)) then bif (decide (out4.length+List.length ([([]:LU)]:List LU)≤room)) then next s0 (out4++([([]:LU)]:List LU)) (IntKind.wrap .i64 ((IntKind.wrap .i64 (i5+1))+1)) else none else bif (qas out4) then bif (qbI s0 i5) then bif (qcw s0 out4 i5) then bif (qas out4) then bif (qcx out4) then next s0 (qcv s0 out4 i5) (IntKind.wrap .i64 (i5+1)) else none else none else none else none else none else none else bif (qas out4) then bif (qbI s0 i5) then bif (qcw s0 out4 i5) then bif (qas out4) then bif (qcx out4) then next s0 (qcv s0 out4 i5) (IntKind.wrap .i64 (i5+1)) else none else none else none else none else none else bif (qas out4) then bif (qbI s0 i5) then bif (qcw s0 out4 i5) then bif (qas out4) then bif (qcx out4) then next s0 (qcv s0 out4 i5) (IntKind.wrap .i64 (i5+1)) else none else none else none else none else none else none else k0 out4
def qfb (k0:List LU→OA):Nat→LU→List LU→Int→OA
 | 0=>fun _ _ _=>none
 | n+1=>qgW k0 (qfb k0 n) n
def qat (out4:List LU):=(IntKind.wrap .i64 ((out4.length:Int) - (1:Int)))
def qdA (_n:Nat) (out4:List LU):OA :=
 bif ((decide (0≤(qat out4)))&&(decide ((qat out4) < out4.length))) then bif (((out4.getD (qat out4).toNat ([]:LU)).length:Int)==(0:Int)) then bif (((decide (0≤((0:Nat):Int)))&&(decide (((0:Nat):Int)≤(qat out4))))&&(decide ((qat out4)≤(out4.length:Int)))) then qpd (List.drop ((0:Nat):Int).toNat (List.take (qat out4).toNat out4)) true else none else qpd out4 false else none
def qro (n:Nat) (s0:LU):OA :=
 qfb (qdA n) n s0 ([([]:LU)]:List LU) (0:Int)
def qEc (s2:List LU):OA:=some (.dat (.sl (.sl .byte)) s2 none)
def qGb (_n:Nat) (s0:LU):OA :=
 bif ((qql s0)&&true) then
 qEc ((z102 s0).1)
 else none
def qdP (s4:Int):OA:=some (dc s4)
def qgb (ret:Int→OA) (k0:LU→Int→Bool→OA) (next:LU→Int→Bool→Int→OA) (_n:Nat) (s0:LU) (most1:Int) (high5:Bool) (i6:Int):OA :=
 bif (decide (i6 < (s0.length:Int))) then
 bif ((decide (0≤i6))&&(decide (i6 < s0.length))) then
 bif ((s0.getD i6.toNat (0:UInt8))==(0:UInt8)) then
 ret (8:Int)
 else
 bif high5 then
 next s0 most1 true (IntKind.wrap .i64 (i6+1))
 else
 bif ((decide (0≤i6))&&(decide (i6 < s0.length))) then
 next s0 most1 (decide ((127:UInt8) < (s0.getD i6.toNat (0:UInt8)))) (IntKind.wrap .i64 (i6+1))
 else none
 else none
 else
 k0 s0 most1 high5
def qlq (ret:Int→OA) (k0:LU→Int→Bool→OA):Nat→LU→Int→Bool→Int→OA
 | 0=>fun _ _ _ _=>none
 | n+1=>qgb ret k0 (qlq ret k0 n) n
def qdB (ret:Int→OA) (k2:OA) (next:Int→List LU→Int→OA) (_n:Nat) (most1:Int) (l7:List LU) (i8:Int):OA :=
 bif (decide (i8 < (l7.length:Int))) then
 bif ((decide (0≤i8))&&(decide (i8 < l7.length))) then
 bif (decide (most1 < ((l7.getD i8.toNat ([]:LU)).length:Int))) then
 ret (12:Int)
 else
 next most1 l7 (IntKind.wrap .i64 (i8+1))
 else none
 else
 k2
def qfc (ret:Int→OA) (k2:OA):Nat→Int→List LU→Int→OA
 | 0=>fun _ _ _=>none
 | n+1=>qdB ret k2 (qfc ret k2 n) n
def qfd (_n:Nat):OA :=
 qdP (0:Int)
def qee (n:Nat) (s0:LU) (most1:Int) (high5:Bool):OA :=
 bif ((qBm s0)&&true) then
 bif (decide ((0:Int) < (z75 s0))) then
 qdP (8:Int)
 else
 bif high5 then
 qdP (9:Int)
 else
 bif ((qzR s0)&&true) then
 qfc qdP (qfd n) n most1 (z76 s0) (0:Int)
 else none
 else none
def qGc (n:Nat) (s0:LU) (most1:Int):OA :=
 qlq qdP (qee n) n s0 most1 false (0:Int)
def qgo (s6:LU) (s7:Int):OA:=some (.tup [(da s6),(dc s7)])
def qGd (_n:Nat) (coding0:Int) (charset1:Int) (t2:LI):OA :=
 bif (decide (coding0 < (1:Int))) then
 qgo ([]:LU) (11:Int)
 else
 bif (decide ((3:Int) < coding0)) then
 qgo ([]:LU) (11:Int)
 else
 bif ((qzN charset1 t2)&&true) then
 bif (((z32 charset1 t2).2) != (0:Int)) then
 qgo ([]:LU) ((z32 charset1 t2).2)
 else
 bif (coding0==(2:Int)) then
 bif ((qBC ((z32 charset1 t2).1))&&true) then
 qgo (z33 ((z32 charset1 t2).1)) (0:Int)
 else none
 else
 bif (coding0==(3:Int)) then
 bif ((qwY ((z32 charset1 t2).1))&&true) then
 qgo (z34 ((z32 charset1 t2).1)) (0:Int)
 else none
 else
 bif ((qta ((z32 charset1 t2).1) (76:Int))&&true) then
 bif ((z35 ((z32 charset1 t2).1) (76:Int)) != (0:Int)) then
 qgo ([]:LU) (z35 ((z32 charset1 t2).1) (76:Int))
 else
 qgo ((z32 charset1 t2).1) (0:Int)
 else none
 else none
def qEd (s6:Bool):OA:=some (dg s6)
def qGe (_n:Nat) (coding0:Int) (charset1:Int) (t2:LI):OA :=
 bif ((qoN coding0 charset1 t2)&&true) then
 qEd (((z13 coding0 charset1 t2).2)==(0:Int))
 else none
def qEe (s2:LI):OA:=some (.dat (.sl (.int .i32)) s2 (some (2,21)))
def qaz (out3:LI):=(decide (out3.length+List.length ([(13:Int),(10:Int)]:LI)≤room))
def qaA (s6:LI) (s8:Int):=([(s6.getD s8.toNat 0)]:LI)
def qaB (out3:LI):=(out3++([(13:Int),(10:Int)]:LI))
def qgc (k0:LI→OA) (next:LI→LI→LI→Int→Int→OA) (_n:Nat) (t0:LI) (out3:LI) (s6:LI) (s7:Int) (s8:Int):OA :=
 bif (decide (s8 < s7)) then bif ((decide (0≤s8))&&(decide (s8 < s6.length))) then bif ((s6.getD s8.toNat 0)==(10:Int)) then bif (decide ((0:Int) < s8)) then bif ((decide (0≤(IntKind.wrap .i64 (s8 - (1:Int)))))&&(decide ((IntKind.wrap .i64 (s8 - (1:Int))) < t0.length))) then bif ((t0.getD (IntKind.wrap .i64 (s8 - (1:Int))).toNat 0)==(13:Int)) then next t0 out3 s6 s7 (IntKind.wrap .i64 (s8+1)) else bif ((s6.getD s8.toNat 0)==(13:Int)) then bif (qaz out3) then next t0 (qaB out3) s6 s7 (IntKind.wrap .i64 (s8+1)) else none else bif ((s6.getD s8.toNat 0)==(10:Int)) then bif (qaz out3) then next t0 (qaB out3) s6 s7 (IntKind.wrap .i64 (s8+1)) else none else bif (decide (out3.length+List.length (qaA s6 s8)≤room)) then next t0 (out3++(qaA s6 s8)) s6 s7 (IntKind.wrap .i64 (s8+1)) else none else none else bif ((s6.getD s8.toNat 0)==(13:Int)) then bif (qaz out3) then next t0 (qaB out3) s6 s7 (IntKind.wrap .i64 (s8+1)) else none else bif ((s6.getD s8.toNat 0)==(10:Int)) then bif (qaz out3) then next t0 (qaB out3) s6 s7 (IntKind.wrap .i64 (s8+1)) else none else bif (decide (out3.length+List.length (qaA s6 s8)≤room)) then next t0 (out3++(qaA s6 s8)) s6 s7 (IntKind.wrap .i64 (s8+1)) else none else bif ((s6.getD s8.toNat 0)==(13:Int)) then bif (qaz out3) then next t0 (qaB out3) s6 s7 (IntKind.wrap .i64 (s8+1)) else none else bif ((s6.getD s8.toNat 0)==(10:Int)) then bif (qaz out3) then next t0 (qaB out3) s6 s7 (IntKind.wrap .i64 (s8+1)) else none else bif (decide (out3.length+List.length (qaA s6 s8)≤room)) then next t0 (out3++(qaA s6 s8)) s6 s7 (IntKind.wrap .i64 (s8+1)) else none else none else k0 out3
def qlr (k0:LI→OA):Nat→LI→LI→LI→Int→Int→OA
 | 0=>fun _ _ _ _ _=>none
 | n+1=>qgc k0 (qlr k0 n) n
def qiJ (_n:Nat) (out3:LI):OA :=
 qEe out3
def qGf (n:Nat) (t0:LI):OA :=
 qlr (qiJ n) n t0 ([]:LI) t0 (t0.length:Int) (0:Int)
def qEf (s2:LI):OA:=some (.dat (.sl (.int .i32)) s2 (some (2,21)))
def qls (k0:LI→OA) (next:LI→LI→Int→OA) (_n:Nat) (t0:LI) (out3:LI) (i4:Int):OA :=
 bif (decide (i4 < (t0.length:Int))) then
 bif ((decide (0≤i4))&&(decide (i4 < t0.length))) then
 bif ((t0.getD i4.toNat 0)==(13:Int)) then
 bif (decide (out3.length+List.length ([(13:Int),(10:Int)]:LI)≤room)) then
 bif (decide ((IntKind.wrap .i64 (i4+1)) < (t0.length:Int))) then
 bif ((decide (0≤(IntKind.wrap .i64 (i4+1))))&&(decide ((IntKind.wrap .i64 (i4+1)) < t0.length))) then
 bif ((t0.getD (IntKind.wrap .i64 (i4+1)).toNat 0)==(10:Int)) then
 next t0 (out3++([(13:Int),(10:Int)]:LI)) (IntKind.wrap .i64 ((IntKind.wrap .i64 (i4+1))+1))
 else
 next t0 (out3++([(13:Int),(10:Int)]:LI)) (IntKind.wrap .i64 (i4+1))
 else none
 else
 next t0 (out3++([(13:Int),(10:Int)]:LI)) (IntKind.wrap .i64 (i4+1))
 else none
 else
 bif ((decide (0≤i4))&&(decide (i4 < t0.length))) then
 bif ((t0.getD i4.toNat 0)==(10:Int)) then
 bif (decide (out3.length+List.length ([(13:Int),(10:Int)]:LI)≤room)) then
 next t0 (out3++([(13:Int),(10:Int)]:LI)) (IntKind.wrap .i64 (i4+1))
 else none
 else
 bif ((decide (0≤i4))&&(decide (i4 < t0.length))) then
 bif (decide (out3.length+List.length ([(t0.getD i4.toNat 0)]:LI)≤room)) then
 next t0 (out3++([(t0.getD i4.toNat 0)]:LI)) (IntKind.wrap .i64 (i4+1))
 else none
 else none
 else none
 else none
 else
 k0 out3
def qng (k0:LI→OA):Nat→LI→LI→Int→OA
 | 0=>fun _ _ _=>none
 | n+1=>qls k0 (qng k0 n) n
def qiK (_n:Nat) (out3:LI):OA :=
 qEf out3
def qGg (n:Nat) (t0:LI):OA :=
 qng (qiK n) n t0 ([]:LI) (0:Int)
def qpe (s4:Bool):OA:=some (dg s4)
def z4_sh (_n:Nat) (h0:Int×(Int×Unit)) (t1:LI):OA :=
 bif (decide ((300:Int) < (t1.length:Int))) then
 qpe z7
 else
 bif ((qoN h0.1 h0.2.1 t1)&&true) then
 bif ((qtb h0.1 h0.2.1 t1)&&true) then
 bif ((qzP ((z13 h0.1 h0.2.1 t1).1) ((z14 h0.1 h0.2.1 t1).1))&&true) then
 bif (z10 ((z13 h0.1 h0.2.1 t1).1) ((z14 h0.1 h0.2.1 t1).1)) then
 bif (((z13 h0.1 h0.2.1 t1).2)==((z14 h0.1 h0.2.1 t1).2)) then
 bif ((qBt h0.1 h0.2.1 t1)&&true) then
 bif ((z15 h0.1 h0.2.1 t1)==(((z14 h0.1 h0.2.1 t1).2)==(0:Int))) then
 bif ((qBo t1)&&true) then
 bif ((qBp t1)&&true) then
 bif ((qzO (z16 t1) (z17 t1))&&true) then
 bif (z11 (z16 t1) (z17 t1)) then
 qpe z7
 else
 qpe false
 else none
 else none
 else none
 else
 qpe false
 else none
 else
 qpe false
 else
 qpe false
 else none
 else none
 else none
end
end
end Go.Av
