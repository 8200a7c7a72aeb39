import Derived.Test.YtopepdfipgfakaaGreatDoorCuM
import Derived.Test.YtopepdfipgfakaaGreatDoorAvE
namespace Go.Av
set_option linter.unusedSimpArgs false
set_option linter.unusedVariables false
noncomputable section
def qEj (s2:List (List UInt8)):Option AV:=some (.dat (.sl (.sl .byte)) s2 none)
def qeG (k0:List (List UInt8)→Option AV) (next:List UInt8→List (List UInt8)→Int→Option AV) (_n:Nat) (s0:List UInt8) (out3:List (List UInt8)) (i4:Int):Option AV :=
 bif (decide (i4 < ((List.length s0:Nat):Int))) then
 bif ((decide ((0:Int)≤i4))&&(decide (i4 < (List.length s0:Nat)))) then
 bif ((List.getD s0 (Int.toNat i4) (0:UInt8))==(63:UInt8)) then
 bif (decide (List.length out3+List.length ([([]:List UInt8)]:List (List UInt8))≤room)) then
 next s0 (out3++([([]:List UInt8)]:List (List UInt8))) (IntKind.wrap .i64 (i4+(1:Int)))
 else none
 else
 bif ((decide ((0:Int)≤(IntKind.wrap .i64 (((List.length out3:Nat):Int) - (1:Int)))))&&(decide ((IntKind.wrap .i64 (((List.length out3:Nat):Int) - (1:Int))) < (List.length out3:Nat)))) then
 bif ((decide ((0:Int)≤i4))&&(decide (i4 < (List.length s0:Nat)))) then
 bif (decide (List.length (List.getD out3 (Int.toNat (IntKind.wrap .i64 (((List.length out3:Nat):Int) - (1:Int)))) ([]:List UInt8))+List.length ([(List.getD s0 (Int.toNat i4) (0:UInt8))]:List UInt8)≤room)) then
 bif ((decide ((0:Int)≤(IntKind.wrap .i64 (((List.length out3:Nat):Int) - (1:Int)))))&&(decide ((IntKind.wrap .i64 (((List.length out3:Nat):Int) - (1:Int))) < (List.length out3:Nat)))) then
 bif (((Int.toNat (IntKind.wrap .i64 (((List.length out3:Nat):Int) - (1:Int))))==(Int.toNat (IntKind.wrap .i64 (((List.length out3:Nat):Int) - (1:Int)))))&&true) then
 next s0 (List.set out3 (Int.toNat (IntKind.wrap .i64 (((List.length out3:Nat):Int) - (1:Int)))) ((List.getD out3 (Int.toNat (IntKind.wrap .i64 (((List.length out3:Nat):Int) - (1:Int)))) ([]:List UInt8))++([(List.getD s0 (Int.toNat i4) (0:UInt8))]:List UInt8))) (IntKind.wrap .i64 (i4+(1:Int)))
 else none
 else none
 else none
 else none
 else none
 else none
 else
 k0 out3
def qkv (k0:List (List UInt8)→Option AV):Nat→List UInt8→List (List UInt8)→Int→Option AV
 | 0=>fun _ _ _=>none
 | n+1=>qeG k0 (qkv k0 n) n
def qgX (_n:Nat) (out3:List (List UInt8)):Option AV :=
 qEj out3
def qBJ (n:Nat) (s0:List UInt8):Option AV :=
 qkv (qgX n) n s0 ([([]:List UInt8)]:List (List UInt8)) (0:Int)
def qqy (s2:UInt8):Option AV:=some (.dat .byte s2 none)
def qFZ (_n:Nat) (c0:UInt8):Option AV :=
 bif (decide ((65:UInt8)≤c0)) then
 bif (decide (c0≤(90:UInt8))) then
 qqy (c0+(32:UInt8))
 else
 qqy c0
 else
 qqy c0
def qqz (s2:Int):Option AV:=some (.dat (.int .i64) s2 none)
def qGa (_n:Nat) (c0:UInt8):Option AV :=
 bif ((z81 c0)==(98:UInt8)) then
 qqz (1:Int)
 else
 bif ((z81 c0)==(113:UInt8)) then
 qqz (2:Int)
 else
 qqz (0:Int)
def qeH (s4:Bool):Option AV:=some (.dat .bool s4 none)
def qcf (ret:Bool→Option AV) (k0:Option AV) (next:List UInt8→UInt8→Int→Option AV) (_n:Nat) (s0:List UInt8) (c1:UInt8) (i5:Int):Option AV :=
 bif (decide (i5 < ((List.length s0:Nat):Int))) then
 bif ((decide ((0:Int)≤i5))&&(decide (i5 < (List.length s0:Nat)))) then
 bif ((List.getD s0 (Int.toNat i5) (0:UInt8))==c1) then
 ret true
 else
 next s0 c1 (IntKind.wrap .i64 (i5+(1:Int)))
 else none
 else
 k0
def qdP (ret:Bool→Option AV) (k0:Option AV):Nat→List UInt8→UInt8→Int→Option AV
 | 0=>fun _ _ _=>none
 | n+1=>qcf ret k0 (qdP ret k0 n) n
def qdQ (_n:Nat):Option AV :=
 qeH false
def qlW (n:Nat) (s0:List UInt8) (c1:UInt8):Option AV :=
 qdP qeH (qdQ n) n s0 c1 (0:Int)
def qEk (s4:Bool):Option AV:=some (.dat .bool s4 none)
def qMi (_n:Nat) (c0:UInt8) (kinds1:Int):Option AV :=
 qEk ((bits .and .i64 (z128 c0) kinds1) != (0:Int))
def qEl (s4:Int):Option AV:=some (.dat (.int .i64) s4 none)
def qeI (k0:Int→Option AV) (next:List UInt8→Int→Int→Int→Option AV) (_n:Nat) (s0:List UInt8) (kinds1:Int) (n5:Int) (i6:Int):Option AV :=
 bif (decide (i6 < ((List.length s0:Nat):Int))) then
 bif ((decide ((0:Int)≤i6))&&(decide (i6 < (List.length s0:Nat)))) then
 bif (z82 (List.getD s0 (Int.toNat i6) (0:UInt8)) kinds1) then
 next s0 kinds1 (IntKind.wrap .i64 (n5+(1:Int))) (IntKind.wrap .i64 (i6+(1:Int)))
 else
 next s0 kinds1 n5 (IntKind.wrap .i64 (i6+(1:Int)))
 else none
 else
 k0 n5
def qkw (k0:Int→Option AV):Nat→List UInt8→Int→Int→Int→Option AV
 | 0=>fun _ _ _ _=>none
 | n+1=>qeI k0 (qkw k0 n) n
def qgY (_n:Nat) (n5:Int):Option AV :=
 qEl n5
def qBK (n:Nat) (s0:List UInt8) (kinds1:Int):Option AV :=
 qkw (qgY n) n s0 kinds1 (0:Int) (0:Int)
def qaT (s2:(List UInt8)×(Int×((List UInt8)×Unit))) (s3:Int):Option AV:=some (.tup [(.dat (.pair (.sl .byte) (.pair (.int .i64) (.pair (.sl .byte) .unit))) s2 none),(.dat (.int .i64) s3 none)])
def qGb (_n:Nat) (s0:List UInt8):Option AV :=
 bif ((qDV s0)&&true) then
 bif (((List.length (z41 s0):Nat):Int) != (5:Int)) then
 qaT (([]:List UInt8),((0:Int),(([]:List UInt8),()))) (3:Int)
 else
 bif ((decide ((0:Int)≤(0:Int)))&&(decide ((0:Int) < (List.length (z41 s0):Nat)))) then
 bif ((List.getD (z41 s0) (Int.toNat (0:Int)) ([]:List UInt8)) != ([61]:List UInt8)) then
 qaT (([]:List UInt8),((0:Int),(([]:List UInt8),()))) (3:Int)
 else
 bif ((decide ((0:Int)≤(4:Int)))&&(decide ((4:Int) < (List.length (z41 s0):Nat)))) then
 bif ((List.getD (z41 s0) (Int.toNat (4:Int)) ([]:List UInt8)) != ([61]:List UInt8)) then
 qaT (([]:List UInt8),((0:Int),(([]:List UInt8),()))) (3:Int)
 else
 bif ((decide ((0:Int)≤(2:Int)))&&(decide ((2:Int) < (List.length (z41 s0):Nat)))) then
 bif (((List.length (List.getD (z41 s0) (Int.toNat (2:Int)) ([]:List UInt8)):Nat):Int) != (1:Int)) then
 qaT (([]:List UInt8),((0:Int),(([]:List UInt8),()))) (3:Int)
 else
 bif ((decide ((0:Int)≤(2:Int)))&&(decide ((2:Int) < (List.length (z41 s0):Nat)))) then
 bif ((decide ((0:Int)≤(0:Int)))&&(decide ((0:Int) < (List.length (List.getD (z41 s0) (Int.toNat (2:Int)) ([]:List UInt8)):Nat)))) then
 bif ((z42 (List.getD (List.getD (z41 s0) (Int.toNat (2:Int)) ([]:List UInt8)) (Int.toNat (0:Int)) (0:UInt8)))==(0:Int)) then
 qaT (([]:List UInt8),((0:Int),(([]:List UInt8),()))) (3:Int)
 else
 bif ((decide ((0:Int)≤(1:Int)))&&(decide ((1:Int) < (List.length (z41 s0):Nat)))) then
 bif (((List.length (List.getD (z41 s0) (Int.toNat (1:Int)) ([]:List UInt8)):Nat):Int)==(0:Int)) then
 qaT (([]:List UInt8),((0:Int),(([]:List UInt8),()))) (3:Int)
 else
 bif ((decide ((0:Int)≤(1:Int)))&&(decide ((1:Int) < (List.length (z41 s0):Nat)))) then
 bif ((decide ((0:Int)≤(1:Int)))&&(decide ((1:Int) < (List.length (z41 s0):Nat)))) then
 bif ((qtA (List.getD (z41 s0) (Int.toNat (1:Int)) ([]:List UInt8)) (64:Int))&&true) then
 bif ((z43 (List.getD (z41 s0) (Int.toNat (1:Int)) ([]:List UInt8)) (64:Int)) != ((List.length (List.getD (z41 s0) (Int.toNat (1:Int)) ([]:List UInt8)):Nat):Int)) then
 qaT (([]:List UInt8),((0:Int),(([]:List UInt8),()))) (3:Int)
 else
 bif ((decide ((0:Int)≤(3:Int)))&&(decide ((3:Int) < (List.length (z41 s0):Nat)))) then
 bif (((List.length (List.getD (z41 s0) (Int.toNat (3:Int)) ([]:List UInt8)):Nat):Int)==(0:Int)) then
 qaT (([]:List UInt8),((0:Int),(([]:List UInt8),()))) (3:Int)
 else
 bif ((decide ((0:Int)≤(3:Int)))&&(decide ((3:Int) < (List.length (z41 s0):Nat)))) then
 bif ((decide ((0:Int)≤(3:Int)))&&(decide ((3:Int) < (List.length (z41 s0):Nat)))) then
 bif ((qtA (List.getD (z41 s0) (Int.toNat (3:Int)) ([]:List UInt8)) (4:Int))&&true) then
 bif ((z43 (List.getD (z41 s0) (Int.toNat (3:Int)) ([]:List UInt8)) (4:Int)) != ((List.length (List.getD (z41 s0) (Int.toNat (3:Int)) ([]:List UInt8)):Nat):Int)) then
 qaT (([]:List UInt8),((0:Int),(([]:List UInt8),()))) (3:Int)
 else
 bif (decide ((75:Int) < ((List.length s0:Nat):Int))) then
 qaT (([]:List UInt8),((0:Int),(([]:List UInt8),()))) (12:Int)
 else
 bif ((decide ((0:Int)≤(1:Int)))&&(decide ((1:Int) < (List.length (z41 s0):Nat)))) then
 bif ((decide ((0:Int)≤(2:Int)))&&(decide ((2:Int) < (List.length (z41 s0):Nat)))) then
 bif ((decide ((0:Int)≤(0:Int)))&&(decide ((0:Int) < (List.length (List.getD (z41 s0) (Int.toNat (2:Int)) ([]:List UInt8)):Nat)))) then
 bif ((decide ((0:Int)≤(3:Int)))&&(decide ((3:Int) < (List.length (z41 s0):Nat)))) then
 qaT ((List.getD (z41 s0) (Int.toNat (1:Int)) ([]:List UInt8)),((z42 (List.getD (List.getD (z41 s0) (Int.toNat (2:Int)) ([]:List UInt8)) (Int.toNat (0:Int)) (0:UInt8))),((List.getD (z41 s0) (Int.toNat (3:Int)) ([]:List UInt8)),()))) (0:Int)
 else none
 else none
 else none
 else none
 else none
 else none
 else none
 else none
 else none
 else none
 else none
 else none
 else none
 else none
 else none
 else none
 else none
 else none
def qgZ (s2:List (List UInt8)):Option AV:=some (.dat (.sl .str) s2 (some (2,9)))
def qGc (_n:Nat) (n0:Int):Option AV :=
 bif (n0==(1:Int)) then
 qgZ ([([117,115,45,97,115,99,105,105]:List UInt8),([97,115,99,105,105]:List UInt8),([97,110,115,105,95,120,51,46,52,45,49,57,54,56]:List UInt8),([105,115,111,54,52,54,45,117,115]:List UInt8)]:List (List UInt8))
 else
 bif (n0==(2:Int)) then
 qgZ ([([105,115,111,45,56,56,53,57,45,49]:List UInt8),([105,115,111,95,56,56,53,57,45,49]:List UInt8),([108,97,116,105,110,49]:List UInt8),([108,49]:List UInt8)]:List (List UInt8))
 else
 bif (n0==(3:Int)) then
 qgZ ([([105,115,111,45,56,56,53,57,45,49,53]:List UInt8),([105,115,111,95,56,56,53,57,45,49,53]:List UInt8),([108,97,116,105,110,45,57]:List UInt8)]:List (List UInt8))
 else
 bif (n0==(4:Int)) then
 qgZ ([([119,105,110,100,111,119,115,45,49,50,53,50]:List UInt8),([99,112,49,50,53,50]:List UInt8)]:List (List UInt8))
 else
 bif (n0==(5:Int)) then
 qgZ ([([117,116,102,45,56]:List UInt8),([117,116,102,56]:List UInt8)]:List (List UInt8))
 else
 qgZ ([]:List (List UInt8))
def qxj (s2:List UInt8):Option AV:=some (.dat (.sl .byte) s2 (some (2,5)))
def qcg (k0:List UInt8→Option AV) (next:List UInt8→List UInt8→Int→Option AV) (_n:Nat) (s0:List UInt8) (out3:List UInt8) (i4:Int):Option AV :=
 bif (decide (i4 < ((List.length s0:Nat):Int))) then
 bif ((decide ((0:Int)≤i4))&&(decide (i4 < (List.length s0:Nat)))) then
 bif (decide (List.length out3+List.length ([(z81 (List.getD s0 (Int.toNat i4) (0:UInt8)))]:List UInt8)≤room)) then
 next s0 (out3++([(z81 (List.getD s0 (Int.toNat i4) (0:UInt8)))]:List UInt8)) (IntKind.wrap .i64 (i4+(1:Int)))
 else none
 else none
 else
 k0 out3
def qha (k0:List UInt8→Option AV):Nat→List UInt8→List UInt8→Int→Option AV
 | 0=>fun _ _ _=>none
 | n+1=>qcg k0 (qha k0 n) n
def qch (_n:Nat) (out3:List UInt8):Option AV :=
 qxj out3
def qqA (n:Nat) (s0:List UInt8):Option AV :=
 qha (qch n) n s0 ([]:List UInt8) (0:Int)
def qxk (s2:List UInt8):Option AV:=some (.dat (.sl .byte) s2 none)
def qci (k0:List UInt8→Int→Int→Option AV) (next:List UInt8→Int→Int→Option AV) (_n:Nat) (s0:List UInt8) (a3:Int) (b4:Int):Option AV :=
 bif (decide (a3 < b4)) then
 bif ((decide ((0:Int)≤a3))&&(decide (a3 < (List.length s0:Nat)))) then
 bif (z82 (List.getD s0 (Int.toNat a3) (0:UInt8)) (2:Int)) then
 next s0 (IntKind.wrap .i64 (a3+(1:Int))) b4
 else
 k0 s0 a3 b4
 else none
 else
 k0 s0 a3 b4
def qdR (k0:List UInt8→Int→Int→Option AV):Nat→List UInt8→Int→Int→Option AV
 | 0=>fun _ _ _=>none
 | n+1=>qci k0 (qdR k0 n) n
def qcj (k2:List UInt8→Int→Int→Option AV) (next:List UInt8→Int→Int→Option AV) (_n:Nat) (s0:List UInt8) (a3:Int) (b4:Int):Option AV :=
 bif (decide (a3 < b4)) then
 bif ((decide ((0:Int)≤(IntKind.wrap .i64 (b4 - (1:Int)))))&&(decide ((IntKind.wrap .i64 (b4 - (1:Int))) < (List.length s0:Nat)))) then
 bif (z82 (List.getD s0 (Int.toNat (IntKind.wrap .i64 (b4 - (1:Int)))) (0:UInt8)) (2:Int)) then
 next s0 a3 (IntKind.wrap .i64 (b4 - (1:Int)))
 else
 k2 s0 a3 b4
 else none
 else
 k2 s0 a3 b4
def qdS (k2:List UInt8→Int→Int→Option AV):Nat→List UInt8→Int→Int→Option AV
 | 0=>fun _ _ _=>none
 | n+1=>qcj k2 (qdS k2 n) n
def qck (_n:Nat) (s0:List UInt8) (a3:Int) (b4:Int):Option AV :=
 bif (((decide ((0:Int)≤a3))&&(decide (a3≤b4)))&&(decide (b4≤((List.length s0:Nat):Int)))) then
 qxk (List.drop (Int.toNat a3) (List.take (Int.toNat b4) s0))
 else none
def qbs (n:Nat) (s0:List UInt8) (a3:Int) (b4:Int):Option AV :=
 qdS (qck n) n s0 a3 b4
def qqB (n:Nat) (s0:List UInt8):Option AV :=
 qdR (qbs n) n s0 (0:Int) ((List.length s0:Nat):Int)
def qxl (s2:List UInt8):Option AV:=some (.dat (.sl .byte) s2 none)
def qcl (k0:List UInt8→Int→Option AV) (next:List UInt8→Int→Int→Option AV) (_n:Nat) (s0:List UInt8) (end3:Int) (i4:Int):Option AV :=
 bif (decide ((0:Int)≤i4)) then
 bif ((decide ((0:Int)≤i4))&&(decide (i4 < (List.length s0:Nat)))) then
 bif ((List.getD s0 (Int.toNat i4) (0:UInt8))==(42:UInt8)) then
 next s0 i4 (IntKind.wrap .i64 (i4 - (1:Int)))
 else
 next s0 end3 (IntKind.wrap .i64 (i4 - (1:Int)))
 else none
 else
 k0 s0 end3
def qhb (k0:List UInt8→Int→Option AV):Nat→List UInt8→Int→Int→Option AV
 | 0=>fun _ _ _=>none
 | n+1=>qcl k0 (qhb k0 n) n
def qbt (_n:Nat) (s0:List UInt8) (end3:Int):Option AV :=
 bif (((decide ((0:Int)≤((0:Nat):Int)))&&(decide (((0:Nat):Int)≤end3)))&&(decide (end3≤((List.length s0:Nat):Int)))) then
 bif ((qrM (List.drop (Int.toNat ((0:Nat):Int)) (List.take (Int.toNat end3) s0)))&&true) then
 qxl (z147 (List.drop (Int.toNat ((0:Nat):Int)) (List.take (Int.toNat end3) s0)))
 else none
 else none
def qqC (n:Nat) (s0:List UInt8):Option AV :=
 qhb (qbt n) n s0 ((List.length s0:Nat):Int) (IntKind.wrap .i64 (((List.length s0:Nat):Int) - (1:Int)))
def qaf (s2:Int) (s3:Int):Option AV:=some (.tup [(.dat (.int .i64) s2 none),(.dat (.int .i64) s3 none)])
def qeJ (ret:Int→Int→Option AV) (k2:List UInt8→Int→Option AV) (next:List UInt8→Int→List (List UInt8)→Int→Option AV) (_n:Nat) (b4:List UInt8) (n5:Int) (l6:List (List UInt8)) (i7:Int):Option AV :=
 bif (decide (i7 < ((List.length l6:Nat):Int))) then
 bif ((decide ((0:Int)≤i7))&&(decide (i7 < (List.length l6:Nat)))) then
 bif ((List.getD l6 (Int.toNat i7) ([]:List UInt8))==b4) then
 ret n5 (0:Int)
 else
 next b4 n5 l6 (IntKind.wrap .i64 (i7+(1:Int)))
 else none
 else
 k2 b4 n5
def qod (ret:Int→Int→Option AV) (k2:List UInt8→Int→Option AV):Nat→List UInt8→Int→List (List UInt8)→Int→Option AV
 | 0=>fun _ _ _ _=>none
 | n+1=>qeJ ret k2 (qod ret k2 n) n
def qhc (_ret:Int→Int→Option AV) (_k0:Option AV) (next:List UInt8→Int→Option AV) (_n:Nat) (b4:List UInt8) (n5:Int):Option AV :=
 next b4 (IntKind.wrap .i64 (n5+(1:Int)))
def qhd (ret:Int→Int→Option AV) (k0:Option AV) (next:List UInt8→Int→Option AV) (n:Nat) (b4:List UInt8) (n5:Int):Option AV :=
 bif (decide (n5≤(5:Int))) then
 qod ret (qhc ret k0 next n) n b4 n5 (z92 n5) (0:Int)
 else
 k0
def qhe (ret:Int→Int→Option AV) (k0:Option AV):Nat→List UInt8→Int→Option AV
 | 0=>fun _ _=>none
 | n+1=>qhd ret k0 (qhe ret k0 n) n
def qbu (_n:Nat):Option AV :=
 qaf (0:Int) (10:Int)
def qBL (n:Nat) (s0:List UInt8):Option AV :=
 bif ((qrH s0)&&true) then
 bif ((qrJ (z105 s0))&&true) then
 qhe qaf (qbu n) n (z104 (z105 s0)) (1:Int)
 else none
 else none
def qqD (s2:Int):Option AV:=some (.dat (.int .i64) s2 none)
def qGd (_n:Nat) (s0:List UInt8):Option AV :=
 bif ((qmx s0)&&true) then
 bif (((z12 s0).2) != (0:Int)) then
 qqD (0:Int)
 else
 bif ((qtu ((z12 s0).1).1)&&true) then
 bif (((z57 ((z12 s0).1).1).2) != (0:Int)) then
 qqD (2:Int)
 else
 qqD ((z57 ((z12 s0).1).1).1)
 else none
 else none
def qQ (s2:Int):Option AV:=some (.dat (.int .i64) s2 none)
def qxm (_n:Nat) (c0:UInt8):Option AV :=
 bif (decide (c0 < (128:UInt8))) then
 qQ (1:Int)
 else
 bif (decide ((194:UInt8)≤c0)) then
 bif (decide (c0≤(223:UInt8))) then
 qQ (2:Int)
 else
 bif (decide ((224:UInt8)≤c0)) then
 bif (decide (c0≤(239:UInt8))) then
 qQ (3:Int)
 else
 bif (decide ((240:UInt8)≤c0)) then
 bif (decide (c0≤(244:UInt8))) then
 qQ (4:Int)
 else
 qQ (0:Int)
 else
 qQ (0:Int)
 else
 bif (decide ((240:UInt8)≤c0)) then
 bif (decide (c0≤(244:UInt8))) then
 qQ (4:Int)
 else
 qQ (0:Int)
 else
 qQ (0:Int)
 else
 bif (decide ((224:UInt8)≤c0)) then
 bif (decide (c0≤(239:UInt8))) then
 qQ (3:Int)
 else
 bif (decide ((240:UInt8)≤c0)) then
 bif (decide (c0≤(244:UInt8))) then
 qQ (4:Int)
 else
 qQ (0:Int)
 else
 qQ (0:Int)
 else
 bif (decide ((240:UInt8)≤c0)) then
 bif (decide (c0≤(244:UInt8))) then
 qQ (4:Int)
 else
 qQ (0:Int)
 else
 qQ (0:Int)
def qeK (s2:UInt8) (s3:UInt8):Option AV:=some (.tup [(.dat .byte s2 none),(.dat .byte s3 none)])
def qxn (_n:Nat) (c0:UInt8):Option AV :=
 bif (c0==(224:UInt8)) then
 qeK (160:UInt8) (191:UInt8)
 else
 bif (c0==(237:UInt8)) then
 qeK (128:UInt8) (159:UInt8)
 else
 bif (c0==(240:UInt8)) then
 qeK (144:UInt8) (191:UInt8)
 else
 bif (c0==(244:UInt8)) then
 qeK (128:UInt8) (143:UInt8)
 else
 qeK (128:UInt8) (191:UInt8)
def qbd (s2:Int):Option AV:=some (.dat (.int .i64) s2 none)
def qcm (ret:Int→Option AV) (k0:Int→Option AV) (next:List UInt8→Int→Option AV) (_n:Nat) (s0:List UInt8) (n3:Int):Option AV :=
 bif ((decide ((0:Int)≤(0:Int)))&&(decide ((0:Int) < (List.length s0:Nat)))) then
 bif (decide (n3 < (z153 (List.getD s0 (Int.toNat (0:Int)) (0:UInt8))))) then
 bif (decide (n3 < ((List.length s0:Nat):Int))) then
 bif (n3==(1:Int)) then
 bif ((decide ((0:Int)≤(0:Int)))&&(decide ((0:Int) < (List.length s0:Nat)))) then
 bif ((decide ((0:Int)≤n3))&&(decide (n3 < (List.length s0:Nat)))) then
 bif (decide ((List.getD s0 (Int.toNat n3) (0:UInt8)) < ((z193 (List.getD s0 (Int.toNat (0:Int)) (0:UInt8))).1))) then
 ret n3
 else
 bif ((decide ((0:Int)≤n3))&&(decide (n3 < (List.length s0:Nat)))) then
 bif (decide (((z193 (List.getD s0 (Int.toNat (0:Int)) (0:UInt8))).2) < (List.getD s0 (Int.toNat n3) (0:UInt8)))) then
 ret n3
 else
 next s0 (IntKind.wrap .i64 (n3+(1:Int)))
 else none
 else none
 else none
 else
 bif ((decide ((0:Int)≤n3))&&(decide (n3 < (List.length s0:Nat)))) then
 bif (decide ((List.getD s0 (Int.toNat n3) (0:UInt8)) < (128:UInt8))) then
 ret n3
 else
 bif ((decide ((0:Int)≤n3))&&(decide (n3 < (List.length s0:Nat)))) then
 bif (decide ((191:UInt8) < (List.getD s0 (Int.toNat n3) (0:UInt8)))) then
 ret n3
 else
 next s0 (IntKind.wrap .i64 (n3+(1:Int)))
 else none
 else none
 else
 k0 n3
 else
 k0 n3
 else none
def qfo (ret:Int→Option AV) (k0:Int→Option AV):Nat→List UInt8→Int→Option AV
 | 0=>fun _ _=>none
 | n+1=>qcm ret k0 (qfo ret k0 n) n
def qcn (_n:Nat) (n3:Int):Option AV :=
 qbd n3
def qqE (n:Nat) (s0:List UInt8):Option AV :=
 bif (((List.length s0:Nat):Int)==(0:Int)) then
 qbd (0:Int)
 else
 bif ((decide ((0:Int)≤(0:Int)))&&(decide ((0:Int) < (List.length s0:Nat)))) then
 bif ((z153 (List.getD s0 (Int.toNat (0:Int)) (0:UInt8)))==(0:Int)) then
 qbd (0:Int)
 else
 qfo qbd (qcn n) n s0 (1:Int)
 else none
def qbe (s2:Int) (s3:Int) (s4:Int):Option AV:=some (.tup [(.dat (.int .i32) s2 none),(.dat (.int .i64) s3 none),(.dat (.int .i64) s4 none)])
def qco (k0:Int→Int→Option AV) (next:List UInt8→Int→Int→Int→Option AV) (_n:Nat) (s0:List UInt8) (n5:Int) (c7:Int) (i8:Int):Option AV :=
 bif (decide (i8 < n5)) then
 bif ((decide ((0:Int)≤i8))&&(decide (i8 < (List.length s0:Nat)))) then
 next s0 n5 (IntKind.wrap .i64 ((IntKind.wrap .i64 ((IntKind.wrap .i64 ((64:Int)*c7))+(IntKind.wrap .i64 ((UInt8.toNat (List.getD s0 (Int.toNat i8) (0:UInt8)):Nat):Int)))) - (128:Int))) (IntKind.wrap .i64 (i8+(1:Int)))
 else none
 else
 k0 n5 c7
def qhf (k0:Int→Int→Option AV):Nat→List UInt8→Int→Int→Int→Option AV
 | 0=>fun _ _ _ _=>none
 | n+1=>qco k0 (qhf k0 n) n
def qdT (_n:Nat) (n5:Int) (c7:Int):Option AV :=
 qbe (IntKind.wrap .i32 c7) n5 (0:Int)
def qqF (n:Nat) (s0:List UInt8):Option AV :=
 bif (((List.length s0:Nat):Int)==(0:Int)) then
 qbe (0:Int) (0:Int) (4:Int)
 else
 bif ((qrF s0)&&true) then
 bif (decide ((0:Int) < (z152 s0))) then
 bif ((decide ((0:Int)≤(0:Int)))&&(decide ((0:Int) < (List.length s0:Nat)))) then
 bif ((z152 s0)==(z153 (List.getD s0 (Int.toNat (0:Int)) (0:UInt8)))) then
 bif ((decide ((0:Int)≤(0:Int)))&&(decide ((0:Int) < (List.length s0:Nat)))) then
 bif ((decide ((0:Int)≤(z152 s0)))&&(decide ((z152 s0) < (List.length ([(0:Int),(0:Int),(192:Int),(224:Int),(240:Int)]:List Int):Nat)))) then
 qhf (qdT n) n s0 (z152 s0) (IntKind.wrap .i64 ((IntKind.wrap .i64 ((UInt8.toNat (List.getD s0 (Int.toNat (0:Int)) (0:UInt8)):Nat):Int)) - (List.getD ([(0:Int),(0:Int),(192:Int),(224:Int),(240:Int)]:List Int) (Int.toNat (z152 s0)) (0:Int)))) (1:Int)
 else none
 else none
 else
 bif ((z152 s0)==((List.length s0:Nat):Int)) then
 qbe (0:Int) (z152 s0) (4:Int)
 else
 qbe (0:Int) (bif (decide ((1:Int) > (z152 s0))) then (1:Int) else (z152 s0)) (3:Int)
 else none
 else
 bif ((z152 s0)==((List.length s0:Nat):Int)) then
 qbe (0:Int) (z152 s0) (4:Int)
 else
 qbe (0:Int) (bif (decide ((1:Int) > (z152 s0))) then (1:Int) else (z152 s0)) (3:Int)
 else none
def qlX (s2:List Int) (s3:Int) (s4:Int):Option AV:=some (.tup [(.dat (.sl (.int .i32)) s2 none),(.dat (.int .i64) s3 none),(.dat (.int .i64) s4 none)])
def qkx (k0:List Int→Int→Int→Option AV) (next:List UInt8→List Int→Int→Int→Int→Option AV) (_n:Nat) (s0:List UInt8) (out5:List Int) (broken6:Int) (first7:Int) (at8:Int):Option AV :=
 bif (decide (at8 < ((List.length s0:Nat):Int))) then
 bif (((decide ((0:Int)≤at8))&&(decide (at8≤((List.length s0:Nat):Int))))&&(decide (((List.length s0:Nat):Int)≤((List.length s0:Nat):Int)))) then
 bif ((qrG (List.drop (Int.toNat at8) (List.take (Int.toNat ((List.length s0:Nat):Int)) s0)))&&true) then
 bif (((z111 (List.drop (Int.toNat at8) (List.take (Int.toNat ((List.length s0:Nat):Int)) s0))).2.2) != (0:Int)) then
 bif (first7==(0:Int)) then
 bif (decide (List.length out5+List.length ([(65533:Int)]:List Int)≤room)) then
 next s0 (out5++([(65533:Int)]:List Int)) (IntKind.wrap .i64 (broken6+(1:Int))) ((z111 (List.drop (Int.toNat at8) (List.take (Int.toNat ((List.length s0:Nat):Int)) s0))).2.2) (IntKind.wrap .i64 (at8+(bif (decide ((1:Int) > ((z111 (List.drop (Int.toNat at8) (List.take (Int.toNat ((List.length s0:Nat):Int)) s0))).2.1))) then (1:Int) else ((z111 (List.drop (Int.toNat at8) (List.take (Int.toNat ((List.length s0:Nat):Int)) s0))).2.1))))
 else none
 else
 bif (decide (List.length out5+List.length ([(65533:Int)]:List Int)≤room)) then
 next s0 (out5++([(65533:Int)]:List Int)) (IntKind.wrap .i64 (broken6+(1:Int))) first7 (IntKind.wrap .i64 (at8+(bif (decide ((1:Int) > ((z111 (List.drop (Int.toNat at8) (List.take (Int.toNat ((List.length s0:Nat):Int)) s0))).2.1))) then (1:Int) else ((z111 (List.drop (Int.toNat at8) (List.take (Int.toNat ((List.length s0:Nat):Int)) s0))).2.1))))
 else none
 else
 bif (decide (List.length out5+List.length ([((z111 (List.drop (Int.toNat at8) (List.take (Int.toNat ((List.length s0:Nat):Int)) s0))).1)]:List Int)≤room)) then
 next s0 (out5++([((z111 (List.drop (Int.toNat at8) (List.take (Int.toNat ((List.length s0:Nat):Int)) s0))).1)]:List Int)) broken6 first7 (IntKind.wrap .i64 (at8+(bif (decide ((1:Int) > ((z111 (List.drop (Int.toNat at8) (List.take (Int.toNat ((List.length s0:Nat):Int)) s0))).2.1))) then (1:Int) else ((z111 (List.drop (Int.toNat at8) (List.take (Int.toNat ((List.length s0:Nat):Int)) s0))).2.1))))
 else none
 else none
 else none
 else
 k0 out5 broken6 first7
def qlY (k0:List Int→Int→Int→Option AV):Nat→List UInt8→List Int→Int→Int→Int→Option AV
 | 0=>fun _ _ _ _ _=>none
 | n+1=>qkx k0 (qlY k0 n) n
def qeL (_n:Nat) (out5:List Int) (broken6:Int) (first7:Int):Option AV :=
 qlX out5 broken6 first7
def qGe (n:Nat) (s0:List UInt8):Option AV :=
 qlY (qeL n) n s0 ([]:List Int) (0:Int) (0:Int) (0:Int)
def qcT (s2:Int):Option AV:=some (.dat (.int .i32) s2 none)
def qGf (_n:Nat) (x0:UInt8):Option AV :=
 bif (x0==(164:UInt8)) then
 qcT (8364:Int)
 else
 bif (x0==(166:UInt8)) then
 qcT (352:Int)
 else
 bif (x0==(168:UInt8)) then
 qcT (353:Int)
 else
 bif (x0==(180:UInt8)) then
 qcT (381:Int)
 else
 bif (x0==(184:UInt8)) then
 qcT (382:Int)
 else
 bif (x0==(188:UInt8)) then
 qcT (338:Int)
 else
 bif (x0==(189:UInt8)) then
 qcT (339:Int)
 else
 bif (x0==(190:UInt8)) then
 qcT (376:Int)
 else
 qcT (IntKind.wrap .i32 ((UInt8.toNat x0:Nat):Int))
def qqG (s2:Int):Option AV:=some (.dat (.int .i32) s2 none)
def qGg (_n:Nat) (x0:UInt8):Option AV :=
 bif (decide (x0 < (128:UInt8))) then
 qqG (IntKind.wrap .i32 ((UInt8.toNat x0:Nat):Int))
 else
 bif (decide ((159:UInt8) < x0)) then
 qqG (IntKind.wrap .i32 ((UInt8.toNat x0:Nat):Int))
 else
 bif ((decide ((0:Int)≤((UInt8.toNat (x0 - (128:UInt8)):Nat):Int)))&&(decide (((UInt8.toNat (x0 - (128:UInt8)):Nat):Int) < (List.length ([(8364:Int),(65533:Int),(8218:Int),(402:Int),(8222:Int),(8230:Int),(8224:Int),(8225:Int),(710:Int),(8240:Int),(352:Int),(8249:Int),(338:Int),(65533:Int),(381:Int),(65533:Int),(65533:Int),(8216:Int),(8217:Int),(8220:Int),(8221:Int),(8226:Int),(8211:Int),(8212:Int),(732:Int),(8482:Int),(353:Int),(8250:Int),(339:Int),(65533:Int),(382:Int),(376:Int)]:List Int):Nat)))) then
 qqG (List.getD ([(8364:Int),(65533:Int),(8218:Int),(402:Int),(8222:Int),(8230:Int),(8224:Int),(8225:Int),(710:Int),(8240:Int),(352:Int),(8249:Int),(338:Int),(65533:Int),(381:Int),(65533:Int),(65533:Int),(8216:Int),(8217:Int),(8220:Int),(8221:Int),(8226:Int),(8211:Int),(8212:Int),(732:Int),(8482:Int),(353:Int),(8250:Int),(339:Int),(65533:Int),(382:Int),(376:Int)]:List Int) (Int.toNat ((UInt8.toNat (x0 - (128:UInt8)):Nat):Int)) (0:Int))
 else none
def qlZ (s4:List Int):Option AV:=some (.dat (.sl (.int .i32)) s4 none)
def qeM (k0:List Int→Option AV) (next:Int→List UInt8→List Int→Int→Option AV) (_n:Nat) (charset0:Int) (s1:List UInt8) (out8:List Int) (i9:Int):Option AV :=
 bif (decide (i9 < ((List.length s1:Nat):Int))) then
 bif (charset0==(1:Int)) then
 bif ((decide ((0:Int)≤i9))&&(decide (i9 < (List.length s1:Nat)))) then
 bif (decide ((127:UInt8) < (List.getD s1 (Int.toNat i9) (0:UInt8)))) then
 bif (decide (List.length out8+List.length ([(65533:Int)]:List Int)≤room)) then
 next charset0 s1 (out8++([(65533:Int)]:List Int)) (IntKind.wrap .i64 (i9+(1:Int)))
 else none
 else
 bif (charset0==(3:Int)) then
 bif ((decide ((0:Int)≤i9))&&(decide (i9 < (List.length s1:Nat)))) then
 bif (decide (List.length out8+List.length ([(z64 (List.getD s1 (Int.toNat i9) (0:UInt8)))]:List Int)≤room)) then
 next charset0 s1 (out8++([(z64 (List.getD s1 (Int.toNat i9) (0:UInt8)))]:List Int)) (IntKind.wrap .i64 (i9+(1:Int)))
 else none
 else none
 else
 bif (charset0==(4:Int)) then
 bif ((decide ((0:Int)≤i9))&&(decide (i9 < (List.length s1:Nat)))) then
 bif (decide (List.length out8+List.length ([(z65 (List.getD s1 (Int.toNat i9) (0:UInt8)))]:List Int)≤room)) then
 next charset0 s1 (out8++([(z65 (List.getD s1 (Int.toNat i9) (0:UInt8)))]:List Int)) (IntKind.wrap .i64 (i9+(1:Int)))
 else none
 else none
 else
 bif ((decide ((0:Int)≤i9))&&(decide (i9 < (List.length s1:Nat)))) then
 bif (decide (List.length out8+List.length ([(IntKind.wrap .i32 ((UInt8.toNat (List.getD s1 (Int.toNat i9) (0:UInt8)):Nat):Int))]:List Int)≤room)) then
 next charset0 s1 (out8++([(IntKind.wrap .i32 ((UInt8.toNat (List.getD s1 (Int.toNat i9) (0:UInt8)):Nat):Int))]:List Int)) (IntKind.wrap .i64 (i9+(1:Int)))
 else none
 else none
 else none
 else
 bif (charset0==(3:Int)) then
 bif ((decide ((0:Int)≤i9))&&(decide (i9 < (List.length s1:Nat)))) then
 bif (decide (List.length out8+List.length ([(z64 (List.getD s1 (Int.toNat i9) (0:UInt8)))]:List Int)≤room)) then
 next charset0 s1 (out8++([(z64 (List.getD s1 (Int.toNat i9) (0:UInt8)))]:List Int)) (IntKind.wrap .i64 (i9+(1:Int)))
 else none
 else none
 else
 bif (charset0==(4:Int)) then
 bif ((decide ((0:Int)≤i9))&&(decide (i9 < (List.length s1:Nat)))) then
 bif (decide (List.length out8+List.length ([(z65 (List.getD s1 (Int.toNat i9) (0:UInt8)))]:List Int)≤room)) then
 next charset0 s1 (out8++([(z65 (List.getD s1 (Int.toNat i9) (0:UInt8)))]:List Int)) (IntKind.wrap .i64 (i9+(1:Int)))
 else none
 else none
 else
 bif ((decide ((0:Int)≤i9))&&(decide (i9 < (List.length s1:Nat)))) then
 bif (decide (List.length out8+List.length ([(IntKind.wrap .i32 ((UInt8.toNat (List.getD s1 (Int.toNat i9) (0:UInt8)):Nat):Int))]:List Int)≤room)) then
 next charset0 s1 (out8++([(IntKind.wrap .i32 ((UInt8.toNat (List.getD s1 (Int.toNat i9) (0:UInt8)):Nat):Int))]:List Int)) (IntKind.wrap .i64 (i9+(1:Int)))
 else none
 else none
 else
 k0 out8
def qoe (k0:List Int→Option AV):Nat→Int→List UInt8→List Int→Int→Option AV
 | 0=>fun _ _ _ _=>none
 | n+1=>qeM k0 (qoe k0 n) n
def qeN (_n:Nat) (out8:List Int):Option AV :=
 qlZ out8
def qBM (n:Nat) (charset0:Int) (s1:List UInt8):Option AV :=
 bif (charset0==(5:Int)) then
 bif ((qDJ s1)&&true) then
 qlZ ((z63 s1).1)
 else none
 else
 qoe (qeN n) n charset0 s1 ([]:List Int) (0:Int)
def qde (s2:UInt8):Option AV:=some (.dat .byte s2 none)
def qxo (_n:Nat) (n0:Int):Option AV :=
 bif (decide ((Int.tmod (IntKind.wrap .i64 ((Int.tmod n0 (64:Int))+(64:Int))) (64:Int)) < (26:Int))) then
 qde (UInt8.ofNat (Int.toNat (IntKind.wrap .u8 (IntKind.wrap .i64 ((65:Int)+(Int.tmod (IntKind.wrap .i64 ((Int.tmod n0 (64:Int))+(64:Int))) (64:Int)))))))
 else
 bif (decide ((Int.tmod (IntKind.wrap .i64 ((Int.tmod n0 (64:Int))+(64:Int))) (64:Int)) < (52:Int))) then
 qde (UInt8.ofNat (Int.toNat (IntKind.wrap .u8 (IntKind.wrap .i64 ((IntKind.wrap .i64 ((97:Int)+(Int.tmod (IntKind.wrap .i64 ((Int.tmod n0 (64:Int))+(64:Int))) (64:Int)))) - (26:Int))))))
 else
 bif (decide ((Int.tmod (IntKind.wrap .i64 ((Int.tmod n0 (64:Int))+(64:Int))) (64:Int)) < (62:Int))) then
 qde (UInt8.ofNat (Int.toNat (IntKind.wrap .u8 (IntKind.wrap .i64 ((IntKind.wrap .i64 ((48:Int)+(Int.tmod (IntKind.wrap .i64 ((Int.tmod n0 (64:Int))+(64:Int))) (64:Int)))) - (52:Int))))))
 else
 bif ((Int.tmod (IntKind.wrap .i64 ((Int.tmod n0 (64:Int))+(64:Int))) (64:Int))==(62:Int)) then
 qde (43:UInt8)
 else
 qde (47:UInt8)
def qdf (s2:Int) (s3:Bool):Option AV:=some (.tup [(.dat (.int .i64) s2 none),(.dat .bool s3 none)])
def qcp (ret:Int→Bool→Option AV) (k0:Option AV) (next:UInt8→Int→Option AV) (_n:Nat) (c0:UInt8) (n4:Int):Option AV :=
 bif (decide (n4 < (64:Int))) then
 bif ((z135 n4)==c0) then
 ret n4 true
 else
 next c0 (IntKind.wrap .i64 (n4+(1:Int)))
 else
 k0
def qhg (ret:Int→Bool→Option AV) (k0:Option AV):Nat→UInt8→Int→Option AV
 | 0=>fun _ _=>none
 | n+1=>qcp ret k0 (qhg ret k0 n) n
def qdU (_n:Nat):Option AV :=
 qdf (0:Int) false
def qqH (n:Nat) (c0:UInt8):Option AV :=
 qhg qdf (qdU n) n c0 (0:Int)
def qdg (s2:List UInt8) (s3:Int):Option AV:=some (.tup [(.dat (.sl .byte) s2 none),(.dat (.int .i64) s3 none)])
def qcq (k0:List UInt8→Int→Option AV) (next:List UInt8→List UInt8→Int→Int→Option AV) (_n:Nat) (s0:List UInt8) (out4:List UInt8) (strange5:Int) (i6:Int):Option AV :=
 bif (decide (i6 < ((List.length s0:Nat):Int))) then
 bif ((decide ((0:Int)≤i6))&&(decide (i6 < (List.length s0:Nat)))) then
 bif ((List.getD s0 (Int.toNat i6) (0:UInt8)) != (61:UInt8)) then
 bif ((decide ((0:Int)≤i6))&&(decide (i6 < (List.length s0:Nat)))) then
 bif ((z145 (List.getD s0 (Int.toNat i6) (0:UInt8))).2) then
 bif ((decide ((0:Int)≤i6))&&(decide (i6 < (List.length s0:Nat)))) then
 bif (decide (List.length out4+List.length ([(List.getD s0 (Int.toNat i6) (0:UInt8))]:List UInt8)≤room)) then
 next s0 (out4++([(List.getD s0 (Int.toNat i6) (0:UInt8))]:List UInt8)) strange5 (IntKind.wrap .i64 (i6+(1:Int)))
 else none
 else none
 else
 next s0 out4 (IntKind.wrap .i64 (strange5+(1:Int))) (IntKind.wrap .i64 (i6+(1:Int)))
 else none
 else
 k0 out4 strange5
 else none
 else
 k0 out4 strange5
def qhh (k0:List UInt8→Int→Option AV):Nat→List UInt8→List UInt8→Int→Int→Option AV
 | 0=>fun _ _ _ _=>none
 | n+1=>qcq k0 (qhh k0 n) n
def qdV (_n:Nat) (out4:List UInt8) (strange5:Int):Option AV :=
 qdg out4 strange5
def qxp (n:Nat) (s0:List UInt8):Option AV :=
 qhh (qdV n) n s0 ([]:List UInt8) (0:Int) (0:Int)
def qaI (s2:List Int) (s3:Bool):Option AV:=some (.tup [(.dat (.sl (.int .i64)) s2 none),(.dat .bool s3 none)])
def qfM (k2:List UInt8→List Int→Int→Option AV) (next:List UInt8→List Int→Int→Int→Int→Option AV) (_n:Nat) (s0:List UInt8) (out4:List Int) (i5:Int) (n6:Int) (k8:Int):Option AV :=
 bif (decide ((0:Int)≤k8)) then
 bif (decide ((0:Int)≤k8)) then
 bif (decide (List.length out4+List.length ([(Int.tmod (Int.fdiv n6 (2 ^ (min (Int.toNat k8) (IntKind.bits .i64)))) (2:Int))]:List Int)≤room)) then
 next s0 (out4++([(Int.tmod (Int.fdiv n6 (2 ^ (min (Int.toNat k8) (IntKind.bits .i64)))) (2:Int))]:List Int)) i5 n6 (IntKind.wrap .i64 (k8 - (1:Int)))
 else none
 else none
 else
 k2 s0 out4 i5
def qcU (k2:List UInt8→List Int→Int→Option AV):Nat→List UInt8→List Int→Int→Int→Int→Option AV
 | 0=>fun _ _ _ _ _=>none
 | n+1=>qfM k2 (qcU k2 n) n
def qfN (_ret:List Int→Bool→Option AV) (_k0:List Int→Option AV) (next:List UInt8→List Int→Int→Option AV) (_n:Nat) (s0:List UInt8) (out4:List Int) (i5:Int):Option AV :=
 next s0 out4 (IntKind.wrap .i64 (i5+(1:Int)))
def qbv (ret:List Int→Bool→Option AV) (k0:List Int→Option AV) (next:List UInt8→List Int→Int→Option AV) (n:Nat) (s0:List UInt8) (out4:List Int) (i5:Int):Option AV :=
 bif (decide (i5 < ((List.length s0:Nat):Int))) then
 bif ((decide ((0:Int)≤i5))&&(decide (i5 < (List.length s0:Nat)))) then
 bif (!((z145 (List.getD s0 (Int.toNat i5) (0:UInt8))).2)) then
 ret ([]:List Int) false
 else
 qcU (qfN ret k0 next n) n s0 out4 i5 ((z145 (List.getD s0 (Int.toNat i5) (0:UInt8))).1) (5:Int)
 else none
 else
 k0 out4
def qdW (ret:List Int→Bool→Option AV) (k0:List Int→Option AV):Nat→List UInt8→List Int→Int→Option AV
 | 0=>fun _ _ _=>none
 | n+1=>qbv ret k0 (qdW ret k0 n) n
def qbw (_n:Nat) (out4:List Int):Option AV :=
 qaI out4 true
def qxq (n:Nat) (s0:List UInt8):Option AV :=
 qdW qaI (qbw n) n s0 ([]:List Int) (0:Int)
def qxr (s2:Int):Option AV:=some (.dat (.int .i64) s2 none)
def qcr (k0:Int→Option AV) (next:List Int→Int→Int→Option AV) (_n:Nat) (l0:List Int) (n3:Int) (i4:Int):Option AV :=
 bif (decide (i4 < ((List.length l0:Nat):Int))) then
 bif ((decide ((0:Int)≤i4))&&(decide (i4 < (List.length l0:Nat)))) then
 next l0 (IntKind.wrap .i64 ((IntKind.wrap .i64 ((2:Int)*n3))+(List.getD l0 (Int.toNat i4) (0:Int)))) (IntKind.wrap .i64 (i4+(1:Int)))
 else none
 else
 k0 n3
def qhi (k0:Int→Option AV):Nat→List Int→Int→Int→Option AV
 | 0=>fun _ _ _=>none
 | n+1=>qcr k0 (qhi k0 n) n
def qdX (_n:Nat) (n3:Int):Option AV :=
 qxr n3
def qqI (n:Nat) (l0:List Int):Option AV :=
 qhi (qdX n) n l0 (0:Int) (0:Int)
def qof (s2:List UInt8) (s3:Bool):Option AV:=some (.tup [(.dat (.sl .byte) s2 none),(.dat .bool s3 none)])
def qcs (k0:List Int→List UInt8→Int→Option AV) (next:List Int→List UInt8→Int→Option AV) (_n:Nat) (l0:List Int) (out4:List UInt8) (i5:Int):Option AV :=
 bif (decide ((IntKind.wrap .i64 (i5+(8:Int)))≤((List.length l0:Nat):Int))) then
 bif (((decide ((0:Int)≤i5))&&(decide (i5≤(IntKind.wrap .i64 (i5+(8:Int))))))&&(decide ((IntKind.wrap .i64 (i5+(8:Int)))≤((List.length l0:Nat):Int)))) then
 bif ((qel (List.drop (Int.toNat i5) (List.take (Int.toNat (IntKind.wrap .i64 (i5+(8:Int)))) l0)))&&true) then
 bif (decide (List.length out4+List.length ([(UInt8.ofNat (Int.toNat (IntKind.wrap .u8 (z136 (List.drop (Int.toNat i5) (List.take (Int.toNat (IntKind.wrap .i64 (i5+(8:Int)))) l0))))))]:List UInt8)≤room)) then
 next l0 (out4++([(UInt8.ofNat (Int.toNat (IntKind.wrap .u8 (z136 (List.drop (Int.toNat i5) (List.take (Int.toNat (IntKind.wrap .i64 (i5+(8:Int)))) l0))))))]:List UInt8)) (IntKind.wrap .i64 (i5+(8:Int)))
 else none
 else none
 else none
 else
 k0 l0 out4 i5
def qhj (k0:List Int→List UInt8→Int→Option AV):Nat→List Int→List UInt8→Int→Option AV
 | 0=>fun _ _ _=>none
 | n+1=>qcs k0 (qhj k0 n) n
def qct (_n:Nat) (l0:List Int) (out4:List UInt8) (i5:Int):Option AV :=
 bif (((decide ((0:Int)≤i5))&&(decide (i5≤((List.length l0:Nat):Int))))&&(decide (((List.length l0:Nat):Int)≤((List.length l0:Nat):Int)))) then
 bif ((qel (List.drop (Int.toNat i5) (List.take (Int.toNat ((List.length l0:Nat):Int)) l0)))&&true) then
 qof out4 ((z136 (List.drop (Int.toNat i5) (List.take (Int.toNat ((List.length l0:Nat):Int)) l0)))==(0:Int))
 else none
 else none
def qxs (n:Nat) (l0:List Int):Option AV :=
 qhj (qct n) n l0 ([]:List UInt8) (0:Int)
def qEm (s2:List UInt8) (s3:Int):Option AV:=some (.tup [(.dat (.sl .byte) s2 none),(.dat (.int .i64) s3 none)])
def qGh (_n:Nat) (s0:List UInt8):Option AV :=
 bif ((qrI s0)&&true) then
 bif ((qiD ((z100 s0).1))&&true) then
 bif ((qiE ((z101 ((z100 s0).1)).1))&&true) then
 qEm ((z102 ((z101 ((z100 s0).1)).1)).1) (Int.tmod ((List.length ((z101 ((z100 s0).1)).1):Nat):Int) (8:Int))
 else none
 else none
 else none
def qog (s2:UInt8):Option AV:=some (.dat .byte s2 none)
def qxt (_n:Nat) (n0:Int):Option AV :=
 bif (decide ((Int.tmod (IntKind.wrap .i64 ((Int.tmod n0 (16:Int))+(16:Int))) (16:Int)) < (10:Int))) then
 qog (UInt8.ofNat (Int.toNat (IntKind.wrap .u8 (IntKind.wrap .i64 ((48:Int)+(Int.tmod (IntKind.wrap .i64 ((Int.tmod n0 (16:Int))+(16:Int))) (16:Int)))))))
 else
 qog (UInt8.ofNat (Int.toNat (IntKind.wrap .u8 (IntKind.wrap .i64 ((IntKind.wrap .i64 ((65:Int)+(Int.tmod (IntKind.wrap .i64 ((Int.tmod n0 (16:Int))+(16:Int))) (16:Int)))) - (10:Int))))))
def qhk (s2:Int) (s3:Bool):Option AV:=some (.tup [(.dat (.int .i64) s2 none),(.dat .bool s3 none)])
def qcu (ret:Int→Bool→Option AV) (k0:Option AV) (next:UInt8→Int→Option AV) (_n:Nat) (c0:UInt8) (n4:Int):Option AV :=
 bif (decide (n4 < (16:Int))) then
 bif ((qbA n4)&&true) then
 bif ((z184 n4)==c0) then
 ret n4 true
 else
 bif (decide ((10:Int)≤n4)) then
 bif ((qbA n4)&&true) then
 bif (((z184 n4)+(32:UInt8))==c0) then
 ret n4 true
 else
 next c0 (IntKind.wrap .i64 (n4+(1:Int)))
 else none
 else
 next c0 (IntKind.wrap .i64 (n4+(1:Int)))
 else none
 else
 k0
def qdY (ret:Int→Bool→Option AV) (k0:Option AV):Nat→UInt8→Int→Option AV
 | 0=>fun _ _=>none
 | n+1=>qcu ret k0 (qdY ret k0 n) n
def qdZ (_n:Nat):Option AV :=
 qhk (0:Int) false
def qxu (n:Nat) (c0:UInt8):Option AV :=
 qdY qhk (qdZ n) n c0 (0:Int)
def qdh (s6:UInt8) (s7:Bool):Option AV:=some (.tup [(.dat .byte s6 none),(.dat .bool s7 none)])
def qxv (_n:Nat) (s0:List UInt8) (at1:Int) (sign2:UInt8):Option AV :=
 bif (decide (at1 < (0:Int))) then
 qdh (0:UInt8) false
 else
 bif (decide ((IntKind.wrap .i64 (((List.length s0:Nat):Int) - (3:Int))) < at1)) then
 qdh (0:UInt8) false
 else
 bif ((decide ((0:Int)≤at1))&&(decide (at1 < (List.length s0:Nat)))) then
 bif ((List.getD s0 (Int.toNat at1) (0:UInt8)) != sign2) then
 qdh (0:UInt8) false
 else
 bif ((decide ((0:Int)≤(IntKind.wrap .i64 (at1+(1:Int)))))&&(decide ((IntKind.wrap .i64 (at1+(1:Int))) < (List.length s0:Nat)))) then
 bif ((decide ((0:Int)≤(IntKind.wrap .i64 (at1+(2:Int)))))&&(decide ((IntKind.wrap .i64 (at1+(2:Int))) < (List.length s0:Nat)))) then
 bif (!((z146 (List.getD s0 (Int.toNat (IntKind.wrap .i64 (at1+(1:Int)))) (0:UInt8))).2)) then
 qdh (0:UInt8) false
 else
 bif (!((z146 (List.getD s0 (Int.toNat (IntKind.wrap .i64 (at1+(2:Int)))) (0:UInt8))).2)) then
 qdh (0:UInt8) false
 else
 qdh (UInt8.ofNat (Int.toNat (IntKind.wrap .u8 (IntKind.wrap .i64 ((IntKind.wrap .i64 ((16:Int)*((z146 (List.getD s0 (Int.toNat (IntKind.wrap .i64 (at1+(1:Int)))) (0:UInt8))).1)))+((z146 (List.getD s0 (Int.toNat (IntKind.wrap .i64 (at1+(2:Int)))) (0:UInt8))).1)))))) true
 else none
 else none
 else none
def qma (s2:List UInt8) (s3:Int):Option AV:=some (.tup [(.dat (.sl .byte) s2 none),(.dat (.int .i64) s3 none)])
def qky (k0:List UInt8→Int→Option AV) (next:List UInt8→List UInt8→Int→Int→Option AV) (_n:Nat) (s0:List UInt8) (out4:List UInt8) (strange5:Int) (i6:Int):Option AV :=
 bif (decide (i6 < ((List.length s0:Nat):Int))) then
 bif ((qrs s0 i6 (61:UInt8))&&true) then
 bif ((z103 s0 i6 (61:UInt8)).2) then
 bif (decide (List.length out4+List.length ([((z103 s0 i6 (61:UInt8)).1)]:List UInt8)≤room)) then
 next s0 (out4++([((z103 s0 i6 (61:UInt8)).1)]:List UInt8)) strange5 (IntKind.wrap .i64 ((IntKind.wrap .i64 (i6+(2:Int)))+(1:Int)))
 else none
 else
 bif ((decide ((0:Int)≤i6))&&(decide (i6 < (List.length s0:Nat)))) then
 bif ((List.getD s0 (Int.toNat i6) (0:UInt8))==(95:UInt8)) then
 bif (decide (List.length out4+List.length ([(32:UInt8)]:List UInt8)≤room)) then
 next s0 (out4++([(32:UInt8)]:List UInt8)) strange5 (IntKind.wrap .i64 (i6+(1:Int)))
 else none
 else
 bif ((decide ((0:Int)≤i6))&&(decide (i6 < (List.length s0:Nat)))) then
 bif ((List.getD s0 (Int.toNat i6) (0:UInt8))==(61:UInt8)) then
 bif (decide (List.length out4+List.length ([(61:UInt8)]:List UInt8)≤room)) then
 next s0 (out4++([(61:UInt8)]:List UInt8)) (IntKind.wrap .i64 (strange5+(1:Int))) (IntKind.wrap .i64 (i6+(1:Int)))
 else none
 else
 bif ((decide ((0:Int)≤i6))&&(decide (i6 < (List.length s0:Nat)))) then
 bif (decide (List.length out4+List.length ([(List.getD s0 (Int.toNat i6) (0:UInt8))]:List UInt8)≤room)) then
 next s0 (out4++([(List.getD s0 (Int.toNat i6) (0:UInt8))]:List UInt8)) strange5 (IntKind.wrap .i64 (i6+(1:Int)))
 else none
 else none
 else none
 else none
 else none
 else
 k0 out4 strange5
def qoh (k0:List UInt8→Int→Option AV):Nat→List UInt8→List UInt8→Int→Int→Option AV
 | 0=>fun _ _ _ _=>none
 | n+1=>qky k0 (qoh k0 n) n
def qhl (_n:Nat) (out4:List UInt8) (strange5:Int):Option AV :=
 qma out4 strange5
def qGi (n:Nat) (s0:List UInt8):Option AV :=
 qoh (qhl n) n s0 ([]:List UInt8) (0:Int) (0:Int)
def qqJ (s2:List Int) (s3:Bool):Option AV:=some (.tup [(.dat (.sl (.int .i32)) s2 none),(.dat .bool s3 none)])
def qGj (_n:Nat) (s0:List UInt8):Option AV :=
 bif ((qmx s0)&&true) then
 bif (((z12 s0).2) != (0:Int)) then
 qqJ ([]:List Int) false
 else
 bif (((z12 s0).1).2.1==(1:Int)) then
 bif ((qDL ((z12 s0).1).2.2.1)&&true) then
 bif ((qhM s0)&&true) then
 bif ((qtt (z23 s0) ((z55 ((z12 s0).1).2.2.1).1))&&true) then
 qqJ (z26 (z23 s0) ((z55 ((z12 s0).1).2.2.1).1)) true
 else none
 else none
 else none
 else
 bif ((qtv ((z12 s0).1).2.2.1)&&true) then
 bif ((qhM s0)&&true) then
 bif ((qtt (z23 s0) ((z56 ((z12 s0).1).2.2.1).1))&&true) then
 qqJ (z26 (z23 s0) ((z56 ((z12 s0).1).2.2.1).1)) true
 else none
 else none
 else none
 else none
def qio (s4:Bool):Option AV:=some (.dat .bool s4 none)
def qeO (ret:Bool→Option AV) (k0:Option AV) (next:List Int→List Int→Int→Option AV) (_n:Nat) (a0:List Int) (b1:List Int) (i5:Int):Option AV :=
 bif (decide (i5 < ((List.length a0:Nat):Int))) then
 bif ((decide ((0:Int)≤i5))&&(decide (i5 < (List.length a0:Nat)))) then
 bif ((decide ((0:Int)≤i5))&&(decide (i5 < (List.length b1:Nat)))) then
 bif ((List.getD a0 (Int.toNat i5) (0:Int)) != (List.getD b1 (Int.toNat i5) (0:Int))) then
 ret false
 else
 next a0 b1 (IntKind.wrap .i64 (i5+(1:Int)))
 else none
 else none
 else
 k0
def qkz (ret:Bool→Option AV) (k0:Option AV):Nat→List Int→List Int→Int→Option AV
 | 0=>fun _ _ _=>none
 | n+1=>qeO ret k0 (qkz ret k0 n) n
def qkA (_n:Nat):Option AV :=
 qio true
def qBN (n:Nat) (a0:List Int) (b1:List Int):Option AV :=
 bif (((List.length a0:Nat):Int) != ((List.length b1:Nat):Int)) then
 qio false
 else
 qkz qio (qkA n) n a0 b1 (0:Int)
def qip (s2:List UInt8) (s3:Int):Option AV:=some (.tup [(.dat (.sl .byte) s2 none),(.dat (.int .i64) s3 none)])
def qeP (k0:List UInt8→Int→Option AV) (next:List UInt8→Int→Int→Option AV) (_n:Nat) (s0:List UInt8) (end4:Int) (k5:Int):Option AV :=
 bif (decide (k5 < (2:Int))) then
 bif (decide ((0:Int) < end4)) then
 bif ((decide ((0:Int)≤(IntKind.wrap .i64 (end4 - (1:Int)))))&&(decide ((IntKind.wrap .i64 (end4 - (1:Int))) < (List.length s0:Nat)))) then
 bif ((List.getD s0 (Int.toNat (IntKind.wrap .i64 (end4 - (1:Int)))) (0:UInt8))==(61:UInt8)) then
 next s0 (IntKind.wrap .i64 (end4 - (1:Int))) (IntKind.wrap .i64 (k5+(1:Int)))
 else
 k0 s0 end4
 else none
 else
 k0 s0 end4
 else
 k0 s0 end4
def qhW (k0:List UInt8→Int→Option AV):Nat→List UInt8→Int→Int→Option AV
 | 0=>fun _ _ _=>none
 | n+1=>qeP k0 (qhW k0 n) n
def qaJ (_n:Nat) (s0:List UInt8) (end4:Int):Option AV :=
 bif (((decide ((0:Int)≤((0:Nat):Int)))&&(decide (((0:Nat):Int)≤end4)))&&(decide (end4≤((List.length s0:Nat):Int)))) then
 bif ((qiD (List.drop (Int.toNat ((0:Nat):Int)) (List.take (Int.toNat end4) s0)))&&true) then
 bif (!((z101 (List.drop (Int.toNat ((0:Nat):Int)) (List.take (Int.toNat end4) s0))).2)) then
 qip ([]:List UInt8) (3:Int)
 else
 bif ((Int.tmod ((List.length s0:Nat):Int) (4:Int)) != (0:Int)) then
 qip ([]:List UInt8) (4:Int)
 else
 bif ((qiE ((z101 (List.drop (Int.toNat ((0:Nat):Int)) (List.take (Int.toNat end4) s0))).1))&&true) then
 bif (!((z102 ((z101 (List.drop (Int.toNat ((0:Nat):Int)) (List.take (Int.toNat end4) s0))).1)).2)) then
 qip ([]:List UInt8) (3:Int)
 else
 qip ((z102 ((z101 (List.drop (Int.toNat ((0:Nat):Int)) (List.take (Int.toNat end4) s0))).1)).1) (0:Int)
 else none
 else none
 else none
def qGk (n:Nat) (s0:List UInt8):Option AV :=
 qhW (qaJ n) n s0 ((List.length s0:Nat):Int) (0:Int)
def qfp (s2:Int):Option AV:=some (.dat (.int .i64) s2 none)
def qeQ (ret:Int→Option AV) (k0:List UInt8→Option AV) (next:List UInt8→Int→Option AV) (_n:Nat) (s0:List UInt8) (i3:Int):Option AV :=
 bif (decide (i3 < ((List.length s0:Nat):Int))) then
 bif ((decide ((0:Int)≤i3))&&(decide (i3 < (List.length s0:Nat)))) then
 bif (!(z82 (List.getD s0 (Int.toNat i3) (0:UInt8)) (4:Int))) then
 ret (3:Int)
 else
 bif ((decide ((0:Int)≤i3))&&(decide (i3 < (List.length s0:Nat)))) then
 bif ((List.getD s0 (Int.toNat i3) (0:UInt8))==(63:UInt8)) then
 ret (3:Int)
 else
 next s0 (IntKind.wrap .i64 (i3+(1:Int)))
 else none
 else none
 else
 k0 s0
def qoi (ret:Int→Option AV) (k0:List UInt8→Option AV):Nat→List UInt8→Int→Option AV
 | 0=>fun _ _=>none
 | n+1=>qeQ ret k0 (qoi ret k0 n) n
def qdi (_n:Nat) (s0:List UInt8):Option AV :=
 bif ((qtv s0)&&true) then
 bif (decide ((0:Int) < ((z56 s0).2))) then
 qfp (3:Int)
 else
 qfp (0:Int)
 else none
def qGl (n:Nat) (s0:List UInt8):Option AV :=
 qoi qfp (qdi n) n s0 (0:Int)
def qmb (s2:Bool):Option AV:=some (.dat .bool s2 none)
def qGm (_n:Nat) (s0:List UInt8):Option AV :=
 bif ((qmx s0)&&true) then
 bif (((z12 s0).2) != (0:Int)) then
 qmb false
 else
 bif ((qtu ((z12 s0).1).1)&&true) then
 bif (((z57 ((z12 s0).1).1).2) != (0:Int)) then
 qmb false
 else
 bif (((z12 s0).1).2.1==(1:Int)) then
 bif ((qDK ((z12 s0).1).2.2.1)&&true) then
 qmb (((z61 ((z12 s0).1).2.2.1).2)==(0:Int))
 else none
 else
 bif ((qDM ((z12 s0).1).2.2.1)&&true) then
 qmb ((z62 ((z12 s0).1).2.2.1)==(0:Int))
 else none
 else none
 else none
def qxw (s2:Bool):Option AV:=some (.dat .bool s2 none)
def qGn (_n:Nat) (n0:Int):Option AV :=
 bif (decide ((1:Int)≤n0)) then
 qxw (decide (n0≤(5:Int)))
 else
 qxw false
def qqK (s2:List UInt8):Option AV:=some (.dat .str s2 none)
def qGo (_n:Nat) (n0:Int):Option AV :=
 bif (n0==(1:Int)) then
 qqK ([66]:List UInt8)
 else
 bif (n0==(2:Int)) then
 qqK ([81]:List UInt8)
 else
 qqK ([]:List UInt8)
def qdj (s2:List (List UInt8)):Option AV:=some (.dat (.sl .str) s2 (some (2,9)))
def qxx (_n:Nat) (charset0:Int):Option AV :=
 bif (charset0==(1:Int)) then
 qdj ([([117,115,45,97,115,99,105,105]:List UInt8),([97,115,99,105,105]:List UInt8),([97,110,115,105,95,120,51,46,52,45,49,57,54,56]:List UInt8),([105,115,111,54,52,54,45,117,115]:List UInt8)]:List (List UInt8))
 else
 bif (charset0==(2:Int)) then
 qdj ([([105,115,111,45,56,56,53,57,45,49]:List UInt8),([105,115,111,95,56,56,53,57,45,49]:List UInt8),([108,97,116,105,110,49]:List UInt8),([108,49]:List UInt8)]:List (List UInt8))
 else
 bif (charset0==(3:Int)) then
 qdj ([([105,115,111,45,56,56,53,57,45,49,53]:List UInt8),([105,115,111,95,56,56,53,57,45,49,53]:List UInt8),([108,97,116,105,110,45,57]:List UInt8)]:List (List UInt8))
 else
 bif (charset0==(4:Int)) then
 qdj ([([119,105,110,100,111,119,115,45,49,50,53,50]:List UInt8),([99,112,49,50,53,50]:List UInt8)]:List (List UInt8))
 else
 bif (charset0==(5:Int)) then
 qdj ([([117,116,102,45,56]:List UInt8),([117,116,102,56]:List UInt8)]:List (List UInt8))
 else
 qdj ([]:List (List UInt8))
def qxy (s2:List UInt8):Option AV:=some (.dat .str s2 none)
def qGp (_n:Nat) (charset0:Int):Option AV :=
 bif (((List.length (z133 charset0):Nat):Int)==(0:Int)) then
 qxy ([]:List UInt8)
 else
 bif ((decide ((0:Int)≤(0:Int)))&&(decide ((0:Int) < (List.length (z133 charset0):Nat)))) then
 qxy (List.getD (z133 charset0) (Int.toNat (0:Int)) ([]:List UInt8))
 else none
def qEn (s4:List UInt8):Option AV:=some (.dat .str s4 none)
def qGq (_n:Nat) (charset0:Int) (code1:Int):Option AV :=
 bif (decide (List.length ([61,63]:List UInt8)+List.length (z89 charset0)≤9223372036854775807)) then
 bif (decide (List.length (([61,63]:List UInt8)++(z89 charset0))+List.length ([63]:List UInt8)≤9223372036854775807)) then
 bif (decide (List.length ((([61,63]:List UInt8)++(z89 charset0))++([63]:List UInt8))+List.length (z45 code1)≤9223372036854775807)) then
 bif (decide (List.length (((([61,63]:List UInt8)++(z89 charset0))++([63]:List UInt8))++(z45 code1))+List.length ([63]:List UInt8)≤9223372036854775807)) then
 qEn ((((([61,63]:List UInt8)++(z89 charset0))++([63]:List UInt8))++(z45 code1))++([63]:List UInt8))
 else none
 else none
 else none
 else none
def qmc (s2:Int):Option AV:=some (.dat (.int .i64) s2 none)
def qGr (_n:Nat) (charset0:Int):Option AV :=
 bif (!(z44 charset0)) then
 qmc (0:Int)
 else
 qmc (IntKind.wrap .i64 ((IntKind.wrap .i64 (((List.length (z48 charset0 (2:Int)):Nat):Int)+(1:Int)))+(1:Int)))
def qbf (s2:Int):Option AV:=some (.dat (.int .i64) s2 none)
def qxz (_n:Nat) (charset0:Int):Option AV :=
 bif (charset0==(1:Int)) then
 qbf (128:Int)
 else
 bif (charset0==(2:Int)) then
 bif (charset0==(2:Int)) then
 qbf (256:Int)
 else
 bif (charset0==(4:Int)) then
 qbf (251:Int)
 else
 bif (charset0==(5:Int)) then
 qbf (1112064:Int)
 else
 qbf (0:Int)
 else
 bif (charset0==(3:Int)) then
 qbf (256:Int)
 else
 bif (charset0==(4:Int)) then
 qbf (251:Int)
 else
 bif (charset0==(5:Int)) then
 qbf (1112064:Int)
 else
 qbf (0:Int)
def qxA (s2:Bool):Option AV:=some (.dat .bool s2 none)
def qEo (_n:Nat) (c0:Int):Option AV :=
 qxA (decide ((IntKind.wrap .u32 c0) < (256:Int)))
def qxB (s0:List (UInt8×(Int×Unit))):Option AV:=some (.dat (.arr 8 (.pair .byte (.pair (.int .i32) .unit))) s0 none)
def qEp (_n:Nat):Option AV :=
 qxB ([((164:UInt8),((8364:Int),())),((166:UInt8),((352:Int),())),((168:UInt8),((353:Int),())),((180:UInt8),((381:Int),())),((184:UInt8),((382:Int),())),((188:UInt8),((338:Int),())),((189:UInt8),((339:Int),())),((190:UInt8),((376:Int),()))]:List (UInt8×(Int×Unit)))
def qbS (s2:UInt8) (s3:Bool):Option AV:=some (.tup [(.dat .byte s2 none),(.dat .bool s3 none)])
def qqL (ret:UInt8→Bool→Option AV) (k0:Int→Option AV) (next:Int→List (UInt8×(Int×Unit))→Int→Option AV) (_n:Nat) (c0:Int) (s6:List (UInt8×(Int×Unit))) (s7:Int):Option AV :=
 bif (decide (s7 < (8:Int))) then
 bif ((decide ((0:Int)≤s7))&&(decide (s7 < (8:Nat)))) then
 bif (c0==(List.getD s6 (Int.toNat s7) ((0:UInt8),((0:Int),()))).2.1) then
 ret (List.getD s6 (Int.toNat s7) ((0:UInt8),((0:Int),()))).1 true
 else
 bif (c0==(IntKind.wrap .i32 ((UInt8.toNat (List.getD s6 (Int.toNat s7) ((0:UInt8),((0:Int),()))).1:Nat):Int))) then
 ret (0:UInt8) false
 else
 next c0 s6 (IntKind.wrap .i64 (s7+(1:Int)))
 else none
 else
 k0 c0
def qiq (ret:UInt8→Bool→Option AV) (k0:Int→Option AV):Nat→Int→List (UInt8×(Int×Unit))→Int→Option AV
 | 0=>fun _ _ _=>none
 | n+1=>qqL ret k0 (qiq ret k0 n) n
def qcv (_n:Nat) (c0:Int):Option AV :=
 bif (decide (c0 < (0:Int))) then
 qbS (0:UInt8) false
 else
 bif (decide ((256:Int)≤c0)) then
 qbS (0:UInt8) false
 else
 qbS (UInt8.ofNat (Int.toNat (IntKind.wrap .u8 c0))) true
def qxC (n:Nat) (c0:Int):Option AV :=
 qiq qbS (qcv n) n c0 z185 (0:Int)
def qxD (s2:Bool):Option AV:=some (.dat .bool s2 none)
def qEq (_n:Nat) (c0:Int):Option AV :=
 qxD ((z205 c0).2)
def qxE (s0:List Int):Option AV:=some (.dat (.sl (.int .i32)) s0 none)
def qEr (_n:Nat):Option AV :=
 qxE (List.drop 0 (List.take 32 ([(8364:Int),(0:Int),(8218:Int),(402:Int),(8222:Int),(8230:Int),(8224:Int),(8225:Int),(710:Int),(8240:Int),(352:Int),(8249:Int),(338:Int),(0:Int),(381:Int),(0:Int),(0:Int),(8216:Int),(8217:Int),(8220:Int),(8221:Int),(8226:Int),(8211:Int),(8212:Int),(732:Int),(8482:Int),(353:Int),(8250:Int),(339:Int),(0:Int),(382:Int),(376:Int)]:List Int)))
def qhm (s4:Int):Option AV:=some (.dat (.int .i64) s4 none)
def qcw (ret:Int→Option AV) (k0:Option AV) (next:List Int→Int→Int→Int→Option AV) (_n:Nat) (s0:List Int) (v1:Int) (s7:Int) (s8:Int):Option AV :=
 bif (decide (s8 < s7)) then
 bif ((decide ((0:Int)≤s8))&&(decide (s8 < (List.length s0:Nat)))) then
 bif (v1==(List.getD s0 (Int.toNat s8) (0:Int))) then
 ret s8
 else
 next s0 v1 s7 (IntKind.wrap .i64 (s8+(1:Int)))
 else none
 else
 k0
def qhn (ret:Int→Option AV) (k0:Option AV):Nat→List Int→Int→Int→Int→Option AV
 | 0=>fun _ _ _ _=>none
 | n+1=>qcw ret k0 (qhn ret k0 n) n
def qea (_n:Nat):Option AV :=
 qhm (-1:Int)
def qqM (n:Nat) (s0:List Int) (v1:Int):Option AV :=
 qhn qhm (qea n) n s0 v1 ((List.length s0:Nat):Int) (0:Int)
def qI (s2:UInt8) (s3:Bool):Option AV:=some (.tup [(.dat .byte s2 none),(.dat .bool s3 none)])
def qxF (_n:Nat) (c0:Int):Option AV :=
 bif (decide ((0:Int)≤c0)) then
 bif (decide (c0 < (128:Int))) then
 bif (decide (c0 < (128:Int))) then
 qI (UInt8.ofNat (Int.toNat (IntKind.wrap .u8 c0))) true
 else
 bif (decide (c0 < (256:Int))) then
 qI (0:UInt8) false
 else
 bif ((qfr z186 c0)&&true) then
 bif (decide ((z233 z186 c0) < (0:Int))) then
 qI (0:UInt8) false
 else
 qI (UInt8.ofNat (Int.toNat (IntKind.wrap .u8 (IntKind.wrap .i64 ((128:Int)+(z233 z186 c0)))))) true
 else none
 else
 bif (decide ((160:Int)≤c0)) then
 bif (decide (c0 < (256:Int))) then
 qI (UInt8.ofNat (Int.toNat (IntKind.wrap .u8 c0))) true
 else
 bif (decide (c0 < (256:Int))) then
 qI (0:UInt8) false
 else
 bif ((qfr z186 c0)&&true) then
 bif (decide ((z233 z186 c0) < (0:Int))) then
 qI (0:UInt8) false
 else
 qI (UInt8.ofNat (Int.toNat (IntKind.wrap .u8 (IntKind.wrap .i64 ((128:Int)+(z233 z186 c0)))))) true
 else none
 else
 bif (decide (c0 < (256:Int))) then
 qI (0:UInt8) false
 else
 bif ((qfr z186 c0)&&true) then
 bif (decide ((z233 z186 c0) < (0:Int))) then
 qI (0:UInt8) false
 else
 qI (UInt8.ofNat (Int.toNat (IntKind.wrap .u8 (IntKind.wrap .i64 ((128:Int)+(z233 z186 c0)))))) true
 else none
 else
 bif (decide ((160:Int)≤c0)) then
 bif (decide (c0 < (256:Int))) then
 qI (UInt8.ofNat (Int.toNat (IntKind.wrap .u8 c0))) true
 else
 bif (decide (c0 < (256:Int))) then
 qI (0:UInt8) false
 else
 bif ((qfr z186 c0)&&true) then
 bif (decide ((z233 z186 c0) < (0:Int))) then
 qI (0:UInt8) false
 else
 qI (UInt8.ofNat (Int.toNat (IntKind.wrap .u8 (IntKind.wrap .i64 ((128:Int)+(z233 z186 c0)))))) true
 else none
 else
 bif (decide (c0 < (256:Int))) then
 qI (0:UInt8) false
 else
 bif ((qfr z186 c0)&&true) then
 bif (decide ((z233 z186 c0) < (0:Int))) then
 qI (0:UInt8) false
 else
 qI (UInt8.ofNat (Int.toNat (IntKind.wrap .u8 (IntKind.wrap .i64 ((128:Int)+(z233 z186 c0)))))) true
 else none
def qxG (s2:Bool):Option AV:=some (.dat .bool s2 none)
def qEs (_n:Nat) (c0:Int):Option AV :=
 qxG ((z207 c0).2)
def qoj (s2:Bool):Option AV:=some (.dat .bool s2 none)
def qxH (_n:Nat) (c0:Int):Option AV :=
 bif (decide ((55296:Int)≤c0)) then
 qoj (decide (c0≤(57343:Int)))
 else
 qoj false
def qok (s2:Bool):Option AV:=some (.dat .bool s2 none)
def qxI (_n:Nat) (c0:Int):Option AV :=
 bif (decide ((IntKind.wrap .u32 c0)≤(1114111:Int))) then
 qok (!(z230 c0))
 else
 qok false
def qbT (s4:Bool):Option AV:=some (.dat .bool s4 none)
def qxJ (_n:Nat) (charset0:Int) (c1:Int):Option AV :=
 bif (charset0==(1:Int)) then
 bif (decide ((0:Int)≤c1)) then
 qbT (decide (c1 < (128:Int)))
 else
 qbT false
 else
 bif (charset0==(2:Int)) then
 qbT (z196 c1)
 else
 bif (charset0==(3:Int)) then
 qbT (z197 c1)
 else
 bif (charset0==(4:Int)) then
 qbT (z198 c1)
 else
 bif (charset0==(5:Int)) then
 qbT (z199 c1)
 else
 qbT false
def qho (s4:Int):Option AV:=some (.dat (.int .i64) s4 none)
def qcx (ret:Int→Option AV) (k0:Option AV) (next:Int→List Int→Int→Int→Option AV) (_n:Nat) (charset0:Int) (s7:List Int) (s8:Int) (s9:Int):Option AV :=
 bif (decide (s9 < s8)) then
 bif ((decide ((0:Int)≤s9))&&(decide (s9 < (List.length s7:Nat)))) then
 bif (!(z157 charset0 (List.getD s7 (Int.toNat s9) (0:Int)))) then
 ret s9
 else
 next charset0 s7 s8 (IntKind.wrap .i64 (s9+(1:Int)))
 else none
 else
 k0
def qhp (ret:Int→Option AV) (k0:Option AV):Nat→Int→List Int→Int→Int→Option AV
 | 0=>fun _ _ _ _=>none
 | n+1=>qcx ret k0 (qhp ret k0 n) n
def qeb (_n:Nat):Option AV :=
 qho (-1:Int)
def qqN (n:Nat) (charset0:Int) (t1:List Int):Option AV :=
 qhp qho (qeb n) n charset0 t1 ((List.length t1:Nat):Int) (0:Int)
def qol (s4:Bool):Option AV:=some (.dat .bool s4 none)
def qxK (_n:Nat) (charset0:Int) (t1:List Int):Option AV :=
 bif (decide ((0:Int) < (z161 charset0))) then
 bif ((qrD charset0 t1)&&true) then
 qol ((z202 charset0 t1)==(-1:Int))
 else none
 else
 qol false
def qxL (s2:Bool):Option AV:=some (.dat .bool s2 none)
def qEt (_n:Nat) (c0:Int):Option AV :=
 qxL (!(z199 c0))
def qhq (s4:Int):Option AV:=some (.dat (.int .i64) s4 none)
def qcy (ret:Int→Option AV) (k0:Option AV) (next:List Int→Int→Int→Option AV) (_n:Nat) (s0:List Int) (s7:Int) (s8:Int):Option AV :=
 bif (decide (s8 < s7)) then
 bif ((decide ((0:Int)≤s8))&&(decide (s8 < (List.length s0:Nat)))) then
 bif (z243 (List.getD s0 (Int.toNat s8) (0:Int))) then
 ret s8
 else
 next s0 s7 (IntKind.wrap .i64 (s8+(1:Int)))
 else none
 else
 k0
def qhr (ret:Int→Option AV) (k0:Option AV):Nat→List Int→Int→Int→Option AV
 | 0=>fun _ _ _=>none
 | n+1=>qcy ret k0 (qhr ret k0 n) n
def qec (_n:Nat):Option AV :=
 qhq (-1:Int)
def qqO (n:Nat) (s0:List Int):Option AV :=
 qhr qhq (qec n) n s0 ((List.length s0:Nat):Int) (0:Int)
def qxM (s2:Int):Option AV:=some (.dat (.int .i64) s2 none)
def qxN (_n:Nat) (t0:List Int):Option AV :=
 bif ((qrt t0)&&true) then
 qxM (z242 t0)
 else none
def qxO (s2:Bool):Option AV:=some (.dat .bool s2 none)
def qxP (_n:Nat) (t0:List Int):Option AV :=
 bif ((qru t0)&&true) then
 qxO ((z231 t0)==(-1:Int))
 else none
def qhs (s2:UInt8):Option AV:=some (.dat .byte s2 none)
def qxQ (_n:Nat) (n0:Int):Option AV :=
 bif (n0==(2:Int)) then
 qhs (192:UInt8)
 else
 bif (n0==(3:Int)) then
 qhs (224:UInt8)
 else
 bif (n0==(4:Int)) then
 qhs (240:UInt8)
 else
 qhs (0:UInt8)
def qeR (s2:Int):Option AV:=some (.dat (.int .i64) s2 none)
def qxR (_n:Nat) (c0:Int):Option AV :=
 bif (!(z199 c0)) then
 qeR (0:Int)
 else
 bif (decide (c0 < (128:Int))) then
 qeR (1:Int)
 else
 bif (decide (c0 < (2048:Int))) then
 qeR (2:Int)
 else
 bif (decide (c0 < (65536:Int))) then
 qeR (3:Int)
 else
 qeR (4:Int)
def qeS (s4:List UInt8) (s5:Int):Option AV:=some (.tup [(.dat (.sl .byte) s4 none),(.dat (.int .i64) s5 none)])
def qxS (_n:Nat) (b0:List UInt8) (c1:Int):Option AV :=
 bif ((z232 c1)==(0:Int)) then
 qeS ([]:List UInt8) (7:Int)
 else
 bif (decide ((0:Int)≤(IntKind.wrap .i64 ((6:Int)*(IntKind.wrap .i64 ((z232 c1) - (1:Int))))))) then
 bif ((qzr b0)&&true) then
 bif (decide (List.length (z38 b0)+List.length ([((z218 (z232 c1)) ||| (UInt8.ofNat (Int.toNat (IntKind.wrap .u8 (Int.fdiv c1 (2 ^ (min (Int.toNat (IntKind.wrap .i64 ((6:Int)*(IntKind.wrap .i64 ((z232 c1) - (1:Int)))))) (IntKind.bits .i32))))))))]:List UInt8)≤room)) then
 bif ((z232 c1)==(4:Int)) then
 bif (decide (List.length ((z38 b0)++([((z218 (z232 c1)) ||| (UInt8.ofNat (Int.toNat (IntKind.wrap .u8 (Int.fdiv c1 (2 ^ (min (Int.toNat (IntKind.wrap .i64 ((6:Int)*(IntKind.wrap .i64 ((z232 c1) - (1:Int)))))) (IntKind.bits .i32))))))))]:List UInt8))+List.length ([((128:UInt8) ||| ((UInt8.ofNat (Int.toNat (IntKind.wrap .u8 (Int.fdiv c1 (2 ^ (min (Int.toNat (12:Int)) (IntKind.bits .i32))))))) &&& (63:UInt8)))]:List UInt8)≤room)) then
 bif (decide (List.length (((z38 b0)++([((z218 (z232 c1)) ||| (UInt8.ofNat (Int.toNat (IntKind.wrap .u8 (Int.fdiv c1 (2 ^ (min (Int.toNat (IntKind.wrap .i64 ((6:Int)*(IntKind.wrap .i64 ((z232 c1) - (1:Int)))))) (IntKind.bits .i32))))))))]:List UInt8))++([((128:UInt8) ||| ((UInt8.ofNat (Int.toNat (IntKind.wrap .u8 (Int.fdiv c1 (2 ^ (min (Int.toNat (12:Int)) (IntKind.bits .i32))))))) &&& (63:UInt8)))]:List UInt8))+List.length ([((128:UInt8) ||| ((UInt8.ofNat (Int.toNat (IntKind.wrap .u8 (Int.fdiv c1 (2 ^ (min (Int.toNat (6:Int)) (IntKind.bits .i32))))))) &&& (63:UInt8)))]:List UInt8)≤room)) then
 bif (decide (List.length ((((z38 b0)++([((z218 (z232 c1)) ||| (UInt8.ofNat (Int.toNat (IntKind.wrap .u8 (Int.fdiv c1 (2 ^ (min (Int.toNat (IntKind.wrap .i64 ((6:Int)*(IntKind.wrap .i64 ((z232 c1) - (1:Int)))))) (IntKind.bits .i32))))))))]:List UInt8))++([((128:UInt8) ||| ((UInt8.ofNat (Int.toNat (IntKind.wrap .u8 (Int.fdiv c1 (2 ^ (min (Int.toNat (12:Int)) (IntKind.bits .i32))))))) &&& (63:UInt8)))]:List UInt8))++([((128:UInt8) ||| ((UInt8.ofNat (Int.toNat (IntKind.wrap .u8 (Int.fdiv c1 (2 ^ (min (Int.toNat (6:Int)) (IntKind.bits .i32))))))) &&& (63:UInt8)))]:List UInt8))+List.length ([((128:UInt8) ||| ((UInt8.ofNat (Int.toNat (IntKind.wrap .u8 c1))) &&& (63:UInt8)))]:List UInt8)≤room)) then
 qeS (((((z38 b0)++([((z218 (z232 c1)) ||| (UInt8.ofNat (Int.toNat (IntKind.wrap .u8 (Int.fdiv c1 (2 ^ (min (Int.toNat (IntKind.wrap .i64 ((6:Int)*(IntKind.wrap .i64 ((z232 c1) - (1:Int)))))) (IntKind.bits .i32))))))))]:List UInt8))++([((128:UInt8) ||| ((UInt8.ofNat (Int.toNat (IntKind.wrap .u8 (Int.fdiv c1 (2 ^ (min (Int.toNat (12:Int)) (IntKind.bits .i32))))))) &&& (63:UInt8)))]:List UInt8))++([((128:UInt8) ||| ((UInt8.ofNat (Int.toNat (IntKind.wrap .u8 (Int.fdiv c1 (2 ^ (min (Int.toNat (6:Int)) (IntKind.bits .i32))))))) &&& (63:UInt8)))]:List UInt8))++([((128:UInt8) ||| ((UInt8.ofNat (Int.toNat (IntKind.wrap .u8 c1))) &&& (63:UInt8)))]:List UInt8)) (0:Int)
 else none
 else none
 else none
 else
 bif ((z232 c1)==(3:Int)) then
 bif (decide (List.length ((z38 b0)++([((z218 (z232 c1)) ||| (UInt8.ofNat (Int.toNat (IntKind.wrap .u8 (Int.fdiv c1 (2 ^ (min (Int.toNat (IntKind.wrap .i64 ((6:Int)*(IntKind.wrap .i64 ((z232 c1) - (1:Int)))))) (IntKind.bits .i32))))))))]:List UInt8))+List.length ([((128:UInt8) ||| ((UInt8.ofNat (Int.toNat (IntKind.wrap .u8 (Int.fdiv c1 (2 ^ (min (Int.toNat (6:Int)) (IntKind.bits .i32))))))) &&& (63:UInt8)))]:List UInt8)≤room)) then
 bif (decide (List.length (((z38 b0)++([((z218 (z232 c1)) ||| (UInt8.ofNat (Int.toNat (IntKind.wrap .u8 (Int.fdiv c1 (2 ^ (min (Int.toNat (IntKind.wrap .i64 ((6:Int)*(IntKind.wrap .i64 ((z232 c1) - (1:Int)))))) (IntKind.bits .i32))))))))]:List UInt8))++([((128:UInt8) ||| ((UInt8.ofNat (Int.toNat (IntKind.wrap .u8 (Int.fdiv c1 (2 ^ (min (Int.toNat (6:Int)) (IntKind.bits .i32))))))) &&& (63:UInt8)))]:List UInt8))+List.length ([((128:UInt8) ||| ((UInt8.ofNat (Int.toNat (IntKind.wrap .u8 c1))) &&& (63:UInt8)))]:List UInt8)≤room)) then
 qeS ((((z38 b0)++([((z218 (z232 c1)) ||| (UInt8.ofNat (Int.toNat (IntKind.wrap .u8 (Int.fdiv c1 (2 ^ (min (Int.toNat (IntKind.wrap .i64 ((6:Int)*(IntKind.wrap .i64 ((z232 c1) - (1:Int)))))) (IntKind.bits .i32))))))))]:List UInt8))++([((128:UInt8) ||| ((UInt8.ofNat (Int.toNat (IntKind.wrap .u8 (Int.fdiv c1 (2 ^ (min (Int.toNat (6:Int)) (IntKind.bits .i32))))))) &&& (63:UInt8)))]:List UInt8))++([((128:UInt8) ||| ((UInt8.ofNat (Int.toNat (IntKind.wrap .u8 c1))) &&& (63:UInt8)))]:List UInt8)) (0:Int)
 else none
 else none
 else
 bif ((z232 c1)==(2:Int)) then
 bif (decide (List.length ((z38 b0)++([((z218 (z232 c1)) ||| (UInt8.ofNat (Int.toNat (IntKind.wrap .u8 (Int.fdiv c1 (2 ^ (min (Int.toNat (IntKind.wrap .i64 ((6:Int)*(IntKind.wrap .i64 ((z232 c1) - (1:Int)))))) (IntKind.bits .i32))))))))]:List UInt8))+List.length ([((128:UInt8) ||| ((UInt8.ofNat (Int.toNat (IntKind.wrap .u8 c1))) &&& (63:UInt8)))]:List UInt8)≤room)) then
 qeS (((z38 b0)++([((z218 (z232 c1)) ||| (UInt8.ofNat (Int.toNat (IntKind.wrap .u8 (Int.fdiv c1 (2 ^ (min (Int.toNat (IntKind.wrap .i64 ((6:Int)*(IntKind.wrap .i64 ((z232 c1) - (1:Int)))))) (IntKind.bits .i32))))))))]:List UInt8))++([((128:UInt8) ||| ((UInt8.ofNat (Int.toNat (IntKind.wrap .u8 c1))) &&& (63:UInt8)))]:List UInt8)) (0:Int)
 else none
 else
 qeS ((z38 b0)++([((z218 (z232 c1)) ||| (UInt8.ofNat (Int.toNat (IntKind.wrap .u8 (Int.fdiv c1 (2 ^ (min (Int.toNat (IntKind.wrap .i64 ((6:Int)*(IntKind.wrap .i64 ((z232 c1) - (1:Int)))))) (IntKind.bits .i32))))))))]:List UInt8)) (0:Int)
 else none
 else none
 else none
def qom (s2:List UInt8) (s3:Int):Option AV:=some (.tup [(.dat (.sl .byte) s2 none),(.dat (.int .i64) s3 none)])
def qcz (k0:List UInt8→Option AV) (next:List UInt8→List Int→Int→Int→Option AV) (_n:Nat) (out4:List UInt8) (s12:List Int) (s13:Int) (s14:Int):Option AV :=
 bif (decide (s14 < s13)) then
 bif ((decide ((0:Int)≤s14))&&(decide (s14 < (List.length s12:Nat)))) then
 bif ((qrw ([]:List UInt8) (List.getD s12 (Int.toNat s14) (0:Int)))&&true) then
 bif (decide (List.length out4+List.length ((z204 ([]:List UInt8) (List.getD s12 (Int.toNat s14) (0:Int))).1)≤room)) then
 next (out4++((z204 ([]:List UInt8) (List.getD s12 (Int.toNat s14) (0:Int))).1)) s12 s13 (IntKind.wrap .i64 (s14+(1:Int)))
 else none
 else none
 else none
 else
 k0 out4
def qht (k0:List UInt8→Option AV):Nat→List UInt8→List Int→Int→Int→Option AV
 | 0=>fun _ _ _ _=>none
 | n+1=>qcz k0 (qht k0 n) n
def qcA (_n:Nat) (out4:List UInt8):Option AV :=
 qom out4 (0:Int)
def qqP (n:Nat) (t0:List Int):Option AV :=
 bif ((qrv t0)&&true) then
 bif (!(z203 t0)) then
 qom ([]:List UInt8) (7:Int)
 else
 qht (qcA n) n ([]:List UInt8) t0 ((List.length t0:Nat):Int) (0:Int)
 else none
def qeT (s2:List UInt8) (s3:Int):Option AV:=some (.tup [(.dat (.sl .byte) s2 none),(.dat (.int .i64) s3 none)])
def qcB (ret:List UInt8→Int→Option AV) (k0:List UInt8→Option AV) (next:List UInt8→List Int→Int→Int→Option AV) (_n:Nat) (s4:List UInt8) (s9:List Int) (s10:Int) (s11:Int):Option AV :=
 bif (decide (s11 < s10)) then
 bif ((decide ((0:Int)≤s11))&&(decide (s11 < (List.length s9:Nat)))) then
 bif (!((z205 (List.getD s9 (Int.toNat s11) (0:Int))).2)) then
 ret ([]:List UInt8) (9:Int)
 else
 bif (decide (List.length s4+List.length ([((z205 (List.getD s9 (Int.toNat s11) (0:Int))).1)]:List UInt8)≤room)) then
 next (s4++([((z205 (List.getD s9 (Int.toNat s11) (0:Int))).1)]:List UInt8)) s9 s10 (IntKind.wrap .i64 (s11+(1:Int)))
 else none
 else none
 else
 k0 s4
def qhu (ret:List UInt8→Int→Option AV) (k0:List UInt8→Option AV):Nat→List UInt8→List Int→Int→Int→Option AV
 | 0=>fun _ _ _ _=>none
 | n+1=>qcB ret k0 (qhu ret k0 n) n
def qcC (_n:Nat) (s4:List UInt8):Option AV :=
 qeT s4 (0:Int)
def qqQ (n:Nat) (t0:List Int):Option AV :=
 qhu qeT (qcC n) n ([]:List UInt8) t0 ((List.length t0:Nat):Int) (0:Int)
def qhv (s2:Int):Option AV:=some (.dat (.int .i64) s2 none)
def qcD (ret:Int→Option AV) (k0:Option AV) (next:List Int→Int→Int→Option AV) (_n:Nat) (s5:List Int) (s6:Int) (s7:Int):Option AV :=
 bif (decide (s7 < s6)) then
 bif ((decide ((0:Int)≤s7))&&(decide (s7 < (List.length s5:Nat)))) then
 bif (!(z198 (List.getD s5 (Int.toNat s7) (0:Int)))) then
 ret s7
 else
 next s5 s6 (IntKind.wrap .i64 (s7+(1:Int)))
 else none
 else
 k0
def qhw (ret:Int→Option AV) (k0:Option AV):Nat→List Int→Int→Int→Option AV
 | 0=>fun _ _ _=>none
 | n+1=>qcD ret k0 (qhw ret k0 n) n
def qed (_n:Nat):Option AV :=
 qhv (-1:Int)
def qqR (n:Nat) (t0:List Int):Option AV :=
 qhw qhv (qed n) n t0 ((List.length t0:Nat):Int) (0:Int)
def qon (s2:List UInt8) (s3:Int):Option AV:=some (.tup [(.dat (.sl .byte) s2 none),(.dat (.int .i64) s3 none)])
def qcE (k0:List UInt8→Option AV) (next:List UInt8→List Int→Int→Int→Option AV) (_n:Nat) (s4:List UInt8) (s15:List Int) (s16:Int) (s17:Int):Option AV :=
 bif (decide (s17 < s16)) then
 bif ((decide ((0:Int)≤s17))&&(decide (s17 < (List.length s15:Nat)))) then
 bif (decide (List.length s4+List.length ([((z207 (List.getD s15 (Int.toNat s17) (0:Int))).1)]:List UInt8)≤room)) then
 next (s4++([((z207 (List.getD s15 (Int.toNat s17) (0:Int))).1)]:List UInt8)) s15 s16 (IntKind.wrap .i64 (s17+(1:Int)))
 else none
 else none
 else
 k0 s4
def qhx (k0:List UInt8→Option AV):Nat→List UInt8→List Int→Int→Int→Option AV
 | 0=>fun _ _ _ _=>none
 | n+1=>qcE k0 (qhx k0 n) n
def qcF (_n:Nat) (s4:List UInt8):Option AV :=
 qon s4 (0:Int)
def qqS (n:Nat) (t0:List Int):Option AV :=
 bif ((qrx t0)&&true) then
 bif (decide ((0:Int)≤(z206 t0))) then
 qon ([]:List UInt8) (9:Int)
 else
 bif (((decide ((0:Int)≤(0:Int)))&&(decide ((0:Int)≤((List.length t0:Nat):Int))))&&(decide (((List.length t0:Nat):Int)≤(room:Int)))) then
 qhx (qcF n) n (List.replicate (Int.toNat (0:Int)) (0:UInt8)) t0 ((List.length t0:Nat):Int) (0:Int)
 else none
 else none
def qhy (s2:Int):Option AV:=some (.dat (.int .i64) s2 none)
def qcG (ret:Int→Option AV) (k0:Option AV) (next:List Int→Int→Int→Option AV) (_n:Nat) (t0:List Int) (s5:Int) (s6:Int):Option AV :=
 bif (decide (s6 < s5)) then
 bif ((decide ((0:Int)≤s6))&&(decide (s6 < (List.length t0:Nat)))) then
 bif (!(z196 (List.getD t0 (Int.toNat s6) (0:Int)))) then
 ret s6
 else
 next t0 s5 (IntKind.wrap .i64 (s6+(1:Int)))
 else none
 else
 k0
def qhz (ret:Int→Option AV) (k0:Option AV):Nat→List Int→Int→Int→Option AV
 | 0=>fun _ _ _=>none
 | n+1=>qcG ret k0 (qhz ret k0 n) n
def qee (_n:Nat):Option AV :=
 qhy (-1:Int)
def qqT (n:Nat) (t0:List Int):Option AV :=
 qhz qhy (qee n) n t0 ((List.length t0:Nat):Int) (0:Int)
def qoo (s2:List UInt8) (s3:Int):Option AV:=some (.tup [(.dat (.sl .byte) s2 none),(.dat (.int .i64) s3 none)])
def qcH (k0:List UInt8→Option AV) (next:List UInt8→List Int→Int→Int→Option AV) (_n:Nat) (s4:List UInt8) (s13:List Int) (s14:Int) (s15:Int):Option AV :=
 bif (decide (s15 < s14)) then
 bif ((decide ((0:Int)≤s15))&&(decide (s15 < (List.length s13:Nat)))) then
 bif ((decide ((0:Int)≤s15))&&(decide (s15 < (List.length s4:Nat)))) then
 next (List.set s4 (Int.toNat s15) (UInt8.ofNat (Int.toNat (IntKind.wrap .u8 (List.getD s13 (Int.toNat s15) (0:Int)))))) s13 s14 (IntKind.wrap .i64 (s15+(1:Int)))
 else none
 else none
 else
 k0 s4
def qef (k0:List UInt8→Option AV):Nat→List UInt8→List Int→Int→Int→Option AV
 | 0=>fun _ _ _ _=>none
 | n+1=>qcH k0 (qef k0 n) n
def qcI (_n:Nat) (s4:List UInt8):Option AV :=
 qoo s4 (0:Int)
def qqU (n:Nat) (t0:List Int):Option AV :=
 bif ((qry t0)&&true) then
 bif ((z208 t0) != (-1:Int)) then
 qoo ([]:List UInt8) (9:Int)
 else
 bif (((decide ((0:Int)≤((List.length t0:Nat):Int)))&&(decide (((List.length t0:Nat):Int)≤((List.length t0:Nat):Int))))&&(decide (((List.length t0:Nat):Int)≤(room:Int)))) then
 qef (qcI n) n (List.replicate (Int.toNat ((List.length t0:Nat):Int)) (0:UInt8)) t0 ((List.length t0:Nat):Int) (0:Int)
 else none
 else none
def qdk (s4:List UInt8) (s5:Int):Option AV:=some (.tup [(.dat (.sl .byte) s4 none),(.dat (.int .i64) s5 none)])
def qxT (_n:Nat) (charset0:Int) (t1:List Int):Option AV :=
 bif ((z161 charset0)==(0:Int)) then
 qdk ([]:List UInt8) (10:Int)
 else
 bif ((qrE charset0 t1)&&true) then
 bif (!(z162 charset0 t1)) then
 qdk ([]:List UInt8) (9:Int)
 else
 bif (charset0==(5:Int)) then
 bif ((qrC t1)&&true) then
 qdk ((z163 t1).1) ((z163 t1).2)
 else none
 else
 bif (charset0==(3:Int)) then
 bif ((qrA t1)&&true) then
 qdk ((z164 t1).1) ((z164 t1).2)
 else none
 else
 bif (charset0==(4:Int)) then
 bif ((qrB t1)&&true) then
 qdk ((z165 t1).1) ((z165 t1).2)
 else none
 else
 bif ((qrz t1)&&true) then
 qdk ((z166 t1).1) ((z166 t1).2)
 else none
 else none
def qf (s2:Int):Option AV:=some (.dat (.int .i64) s2 none)
def qxU (_n:Nat) (c0:UInt8):Option AV :=
 bif (decide (c0 < (32:UInt8))) then
 bif (c0==(32:UInt8)) then
 qf (bits .or .i64 (bits .or .i64 (0:Int) (1:Int)) (2:Int))
 else
 bif (c0==(9:UInt8)) then
 qf (bits .or .i64 (bits .or .i64 (0:Int) (1:Int)) (2:Int))
 else
 bif (decide ((48:UInt8)≤c0)) then
 bif (decide (c0≤(57:UInt8))) then
 qf (bits .or .i64 (bits .or .i64 (0:Int) (1:Int)) (648:Int))
 else
 bif (decide ((65:UInt8)≤c0)) then
 bif (decide (c0≤(90:UInt8))) then
 bif (decide (c0≤(90:UInt8))) then
 qf (bits .or .i64 (bits .or .i64 (0:Int) (1:Int)) (656:Int))
 else
 qf (bits .or .i64 (0:Int) (1:Int))
 else
 bif (decide ((97:UInt8)≤c0)) then
 bif (decide (c0≤(122:UInt8))) then
 qf (bits .or .i64 (bits .or .i64 (0:Int) (1:Int)) (656:Int))
 else
 qf (bits .or .i64 (0:Int) (1:Int))
 else
 qf (bits .or .i64 (0:Int) (1:Int))
 else
 bif (decide ((97:UInt8)≤c0)) then
 bif (decide (c0≤(122:UInt8))) then
 qf (bits .or .i64 (bits .or .i64 (0:Int) (1:Int)) (656:Int))
 else
 qf (bits .or .i64 (0:Int) (1:Int))
 else
 qf (bits .or .i64 (0:Int) (1:Int))
 else
 bif (decide ((65:UInt8)≤c0)) then
 bif (decide (c0≤(90:UInt8))) then
 bif (decide (c0≤(90:UInt8))) then
 qf (bits .or .i64 (bits .or .i64 (0:Int) (1:Int)) (656:Int))
 else
 qf (bits .or .i64 (0:Int) (1:Int))
 else
 bif (decide ((97:UInt8)≤c0)) then
 bif (decide (c0≤(122:UInt8))) then
 qf (bits .or .i64 (bits .or .i64 (0:Int) (1:Int)) (656:Int))
 else
 qf (bits .or .i64 (0:Int) (1:Int))
 else
 qf (bits .or .i64 (0:Int) (1:Int))
 else
 bif (decide ((97:UInt8)≤c0)) then
 bif (decide (c0≤(122:UInt8))) then
 qf (bits .or .i64 (bits .or .i64 (0:Int) (1:Int)) (656:Int))
 else
 qf (bits .or .i64 (0:Int) (1:Int))
 else
 qf (bits .or .i64 (0:Int) (1:Int))
 else
 bif (c0==(127:UInt8)) then
 bif (c0==(32:UInt8)) then
 qf (bits .or .i64 (bits .or .i64 (0:Int) (1:Int)) (2:Int))
 else
 bif (c0==(9:UInt8)) then
 qf (bits .or .i64 (bits .or .i64 (0:Int) (1:Int)) (2:Int))
 else
 bif (decide ((48:UInt8)≤c0)) then
 bif (decide (c0≤(57:UInt8))) then
 qf (bits .or .i64 (bits .or .i64 (0:Int) (1:Int)) (648:Int))
 else
 bif (decide ((65:UInt8)≤c0)) then
 bif (decide (c0≤(90:UInt8))) then
 bif (decide (c0≤(90:UInt8))) then
 qf (bits .or .i64 (bits .or .i64 (0:Int) (1:Int)) (656:Int))
 else
 qf (bits .or .i64 (0:Int) (1:Int))
 else
 bif (decide ((97:UInt8)≤c0)) then
 bif (decide (c0≤(122:UInt8))) then
 qf (bits .or .i64 (bits .or .i64 (0:Int) (1:Int)) (656:Int))
 else
 qf (bits .or .i64 (0:Int) (1:Int))
 else
 qf (bits .or .i64 (0:Int) (1:Int))
 else
 bif (decide ((97:UInt8)≤c0)) then
 bif (decide (c0≤(122:UInt8))) then
 qf (bits .or .i64 (bits .or .i64 (0:Int) (1:Int)) (656:Int))
 else
 qf (bits .or .i64 (0:Int) (1:Int))
 else
 qf (bits .or .i64 (0:Int) (1:Int))
 else
 bif (decide ((65:UInt8)≤c0)) then
 bif (decide (c0≤(90:UInt8))) then
 bif (decide (c0≤(90:UInt8))) then
 qf (bits .or .i64 (bits .or .i64 (0:Int) (1:Int)) (656:Int))
 else
 qf (bits .or .i64 (0:Int) (1:Int))
 else
 bif (decide ((97:UInt8)≤c0)) then
 bif (decide (c0≤(122:UInt8))) then
 qf (bits .or .i64 (bits .or .i64 (0:Int) (1:Int)) (656:Int))
 else
 qf (bits .or .i64 (0:Int) (1:Int))
 else
 qf (bits .or .i64 (0:Int) (1:Int))
 else
 bif (decide ((97:UInt8)≤c0)) then
 bif (decide (c0≤(122:UInt8))) then
 qf (bits .or .i64 (bits .or .i64 (0:Int) (1:Int)) (656:Int))
 else
 qf (bits .or .i64 (0:Int) (1:Int))
 else
 qf (bits .or .i64 (0:Int) (1:Int))
 else
 bif (c0==(32:UInt8)) then
 qf (bits .or .i64 (0:Int) (2:Int))
 else
 bif (c0==(9:UInt8)) then
 qf (bits .or .i64 (0:Int) (2:Int))
 else
 bif (decide ((48:UInt8)≤c0)) then
 bif (decide (c0≤(57:UInt8))) then
 qf (bits .or .i64 (0:Int) (648:Int))
 else
 bif (decide ((65:UInt8)≤c0)) then
 bif (decide (c0≤(90:UInt8))) then
 bif (decide (c0≤(90:UInt8))) then
 qf (bits .or .i64 (0:Int) (656:Int))
 else
 qf (0:Int)
 else
 bif (decide ((97:UInt8)≤c0)) then
 bif (decide (c0≤(122:UInt8))) then
 qf (bits .or .i64 (0:Int) (656:Int))
 else
 qf (0:Int)
 else
 qf (0:Int)
 else
 bif (decide ((97:UInt8)≤c0)) then
 bif (decide (c0≤(122:UInt8))) then
 qf (bits .or .i64 (0:Int) (656:Int))
 else
 qf (0:Int)
 else
 qf (0:Int)
 else
 bif (decide ((65:UInt8)≤c0)) then
 bif (decide (c0≤(90:UInt8))) then
 bif (decide (c0≤(90:UInt8))) then
 qf (bits .or .i64 (0:Int) (656:Int))
 else
 qf (0:Int)
 else
 bif (decide ((97:UInt8)≤c0)) then
 bif (decide (c0≤(122:UInt8))) then
 qf (bits .or .i64 (0:Int) (656:Int))
 else
 qf (0:Int)
 else
 qf (0:Int)
 else
 bif (decide ((97:UInt8)≤c0)) then
 bif (decide (c0≤(122:UInt8))) then
 qf (bits .or .i64 (0:Int) (656:Int))
 else
 qf (0:Int)
 else
 qf (0:Int)
def qxV (s4:Int):Option AV:=some (.dat (.int .i64) s4 none)
def qEu (_n:Nat) (s0:List UInt8) (c1:UInt8):Option AV :=
 qxV (z241 s0 c1)
def qxW (s4:Int):Option AV:=some (.dat (.int .i64) s4 none)
def qEv (_n:Nat) (s0:List UInt8) (c1:UInt8):Option AV :=
 qxW (z229 s0 c1)
def qxX (s4:Bool):Option AV:=some (.dat .bool s4 none)
def qEw (_n:Nat) (s0:List UInt8) (c1:UInt8):Option AV :=
 qxX (decide ((0:Int)≤(z192 s0 c1)))
def qZ (s2:Int):Option AV:=some (.dat (.int .i64) s2 none)
def qxY (_n:Nat) (c0:UInt8):Option AV :=
 bif (decide (c0 < (33:UInt8))) then
 qZ (z214 c0)
 else
 bif (decide ((126:UInt8) < c0)) then
 qZ (z214 c0)
 else
 bif (z215 ([33,42,43,45,47]:List UInt8) c0) then
 bif (z215 ([43,47]:List UInt8) c0) then
 bif (z215 ([40,41,60,62,64,44,59,58,92,34,47,91,93,63,61]:List UInt8) c0) then
 qZ (bits .or .i64 (bits .or .i64 (bits .or .i64 (bits .or .i64 (z214 c0) (4:Int)) (128:Int)) (512:Int)) (32:Int))
 else
 bif (!(z215 ([42,39,37]:List UInt8) c0)) then
 qZ (bits .or .i64 (bits .or .i64 (bits .or .i64 (bits .or .i64 (bits .or .i64 (z214 c0) (4:Int)) (128:Int)) (512:Int)) (64:Int)) (256:Int))
 else
 qZ (bits .or .i64 (bits .or .i64 (bits .or .i64 (bits .or .i64 (z214 c0) (4:Int)) (128:Int)) (512:Int)) (64:Int))
 else
 bif (z215 ([40,41,60,62,64,44,59,58,92,34,47,91,93,63,61]:List UInt8) c0) then
 qZ (bits .or .i64 (bits .or .i64 (bits .or .i64 (z214 c0) (4:Int)) (128:Int)) (32:Int))
 else
 bif (!(z215 ([42,39,37]:List UInt8) c0)) then
 qZ (bits .or .i64 (bits .or .i64 (bits .or .i64 (bits .or .i64 (z214 c0) (4:Int)) (128:Int)) (64:Int)) (256:Int))
 else
 qZ (bits .or .i64 (bits .or .i64 (bits .or .i64 (z214 c0) (4:Int)) (128:Int)) (64:Int))
 else
 bif (z215 ([43,47]:List UInt8) c0) then
 bif (z215 ([40,41,60,62,64,44,59,58,92,34,47,91,93,63,61]:List UInt8) c0) then
 qZ (bits .or .i64 (bits .or .i64 (bits .or .i64 (z214 c0) (4:Int)) (512:Int)) (32:Int))
 else
 bif (!(z215 ([42,39,37]:List UInt8) c0)) then
 qZ (bits .or .i64 (bits .or .i64 (bits .or .i64 (bits .or .i64 (z214 c0) (4:Int)) (512:Int)) (64:Int)) (256:Int))
 else
 qZ (bits .or .i64 (bits .or .i64 (bits .or .i64 (z214 c0) (4:Int)) (512:Int)) (64:Int))
 else
 bif (z215 ([40,41,60,62,64,44,59,58,92,34,47,91,93,63,61]:List UInt8) c0) then
 qZ (bits .or .i64 (bits .or .i64 (z214 c0) (4:Int)) (32:Int))
 else
 bif (!(z215 ([42,39,37]:List UInt8) c0)) then
 qZ (bits .or .i64 (bits .or .i64 (bits .or .i64 (z214 c0) (4:Int)) (64:Int)) (256:Int))
 else
 qZ (bits .or .i64 (bits .or .i64 (z214 c0) (4:Int)) (64:Int))
def qxZ (s4:Bool):Option AV:=some (.dat .bool s4 none)
def qEx (_n:Nat) (c0:UInt8) (kinds1:Int):Option AV :=
 qxZ ((bits .and .i64 (z180 c0) kinds1) != (0:Int))
def qqV (s2:Int):Option AV:=some (.dat (.int .i64) s2 none)
def qGs (_n:Nat) (c0:UInt8):Option AV :=
 bif (c0==(32:UInt8)) then
 qqV (1:Int)
 else
 bif (z129 c0 (128:Int)) then
 qqV (1:Int)
 else
 qqV (3:Int)
def qEy (s2:Int):Option AV:=some (.dat (.int .i64) s2 none)
def qeU (k0:Int→Option AV) (next:Int→List UInt8→Int→Int→Option AV) (_n:Nat) (n3:Int) (s6:List UInt8) (s7:Int) (s8:Int):Option AV :=
 bif (decide (s8 < s7)) then
 bif ((decide ((0:Int)≤s8))&&(decide (s8 < (List.length s6:Nat)))) then
 next (IntKind.wrap .i64 (n3+(z84 (List.getD s6 (Int.toNat s8) (0:UInt8))))) s6 s7 (IntKind.wrap .i64 (s8+(1:Int)))
 else none
 else
 k0 n3
def qop (k0:Int→Option AV):Nat→Int→List UInt8→Int→Int→Option AV
 | 0=>fun _ _ _ _=>none
 | n+1=>qeU k0 (qop k0 n) n
def qhA (_n:Nat) (n3:Int):Option AV :=
 qEy n3
def qBO (n:Nat) (s0:List UInt8):Option AV :=
 qop (qhA n) n (0:Int) s0 ((List.length s0:Nat):Int) (0:Int)
def qya (s2:Int):Option AV:=some (.dat (.int .i64) s2 none)
def qGt (_n:Nat) (n0:Int):Option AV :=
 bif (decide (n0 < (1:Int))) then
 qya (0:Int)
 else
 qya (IntKind.wrap .i64 ((IntKind.wrap .i64 ((IntKind.wrap .i64 (Int.tdiv (IntKind.wrap .i64 (n0 - (1:Int))) (3:Int)))*(4:Int)))+(4:Int)))
def qir (s4:Int) (s5:Bool):Option AV:=some (.tup [(.dat (.int .i64) s4 none),(.dat .bool s5 none)])
def qmd (_n:Nat) (s1:List UInt8):Option AV :=
 qir (z87 ((List.length s1:Nat):Int)) true
def qis (s4:Int) (s5:Bool):Option AV:=some (.tup [(.dat (.int .i64) s4 none),(.dat .bool s5 none)])
def qhB (_n:Nat) (s1:List UInt8):Option AV :=
 bif ((qhZ s1)&&true) then
 qis (z83 s1) true
 else none
def qit (s4:Int) (s5:Bool):Option AV:=some (.tup [(.dat (.int .i64) s4 none),(.dat .bool s5 none)])
def qme (_n:Nat) (_s1:List UInt8):Option AV :=
 qit (0:Int) false
def qyb (s2:Int):Option AV:=some (.dat (.int .i64) s2 none)
def qEz (_n:Nat) (_x0:Unit):Option AV :=
 qyb (1:Int)
def qyc (s2:Int):Option AV:=some (.dat (.int .i64) s2 none)
def qEA (_n:Nat) (_x0:Unit):Option AV :=
 qyc (2:Int)
def qEB (_n:Nat) (code0:Int):Option AV :=
 bif (code0==(z194 ())) then
 some (.iface 178 (.dat .unit () none))
 else
 bif (code0==(z195 ())) then
 some (.iface 179 (.dat .unit () none))
 else
 some .nilIface
def qaK (s6:Int) (s7:Int):Option AV:=some (.tup [(.dat (.int .i64) s6 none),(.dat (.int .i64) s7 none)])
def qyd (_n:Nat) (charset0:Int) (code1:Int) (t2:List Int):Option AV :=
 bif ((qiC charset0 t2)&&true) then
 bif (((z120 charset0 t2).2)==(10:Int)) then
 qaK (0:Int) ((z120 charset0 t2).2)
 else
 bif (code1==(1:Int)) then
 bif ((qfm ((z120 charset0 t2).1))&&true) then
 bif (!true) then
 qaK (0:Int) (3:Int)
 else
 bif (((z120 charset0 t2).2) != (0:Int)) then
 qaK (0:Int) ((z120 charset0 t2).2)
 else
 qaK (z87 ((List.length ((z120 charset0 t2).1):Nat):Int)) (0:Int)
 else none
 else
 bif (code1==(2:Int)) then
 bif ((qfm ((z120 charset0 t2).1))&&true) then
 bif (!true) then
 qaK (0:Int) (3:Int)
 else
 bif (((z120 charset0 t2).2) != (0:Int)) then
 qaK (0:Int) ((z120 charset0 t2).2)
 else
 qaK (z83 ((z120 charset0 t2).1)) (0:Int)
 else none
 else
 bif (!false) then
 qaK (0:Int) (3:Int)
 else
 bif (((z120 charset0 t2).2) != (0:Int)) then
 qaK (0:Int) ((z120 charset0 t2).2)
 else
 qaK (0:Int) (0:Int)
 else none
def qye (s6:Int) (s7:Int):Option AV:=some (.tup [(.dat (.int .i64) s6 none),(.dat (.int .i64) s7 none)])
def qGu (_n:Nat) (charset0:Int) (code1:Int) (t2:List Int):Option AV :=
 bif ((qfn charset0 code1 t2)&&true) then
 bif (((z112 charset0 code1 t2).2) != (0:Int)) then
 qye (0:Int) ((z112 charset0 code1 t2).2)
 else
 qye (IntKind.wrap .i64 (((z112 charset0 code1 t2).1)+(z17 charset0))) (0:Int)
 else none
def qkB (s8:Bool):Option AV:=some (.dat .bool s8 none)
def qyf (_n:Nat) (charset0:Int) (code1:Int) (t2:List Int) (room3:Int):Option AV :=
 bif ((qsY charset0 code1 t2)&&true) then
 bif (((z66 charset0 code1 t2).2)==(0:Int)) then
 bif (decide ((0:Int) < ((List.length t2:Nat):Int))) then
 qkB (decide (((z66 charset0 code1 t2).1)≤(bif (decide ((75:Int) < room3)) then (75:Int) else room3)))
 else
 qkB false
 else
 qkB false
 else none
def qyg (s8:Int):Option AV:=some (.dat (.int .i64) s8 none)
def qcJ (k0:Int→Option AV) (next:Int→Int→List Int→Int→Int→Option AV) (_n:Nat) (charset0:Int) (code1:Int) (t2:List Int) (room3:Int) (many9:Int):Option AV :=
 bif (decide (many9 < ((List.length t2:Nat):Int))) then
 bif (((decide ((0:Int)≤((0:Nat):Int)))&&(decide (((0:Nat):Int)≤(IntKind.wrap .i64 (many9+(1:Int))))))&&(decide ((IntKind.wrap .i64 (many9+(1:Int)))≤((List.length t2:Nat):Int)))) then
 bif ((qqm charset0 code1 (List.drop (Int.toNat ((0:Nat):Int)) (List.take (Int.toNat (IntKind.wrap .i64 (many9+(1:Int)))) t2)) room3)&&true) then
 bif (z156 charset0 code1 (List.drop (Int.toNat ((0:Nat):Int)) (List.take (Int.toNat (IntKind.wrap .i64 (many9+(1:Int)))) t2)) room3) then
 next charset0 code1 t2 room3 (IntKind.wrap .i64 (many9+(1:Int)))
 else
 k0 many9
 else none
 else none
 else
 k0 many9
def qhC (k0:Int→Option AV):Nat→Int→Int→List Int→Int→Int→Option AV
 | 0=>fun _ _ _ _ _=>none
 | n+1=>qcJ k0 (qhC k0 n) n
def qeg (_n:Nat) (many9:Int):Option AV :=
 qyg many9
def qqW (n:Nat) (charset0:Int) (code1:Int) (t2:List Int) (room3:Int):Option AV :=
 qhC (qeg n) n charset0 code1 t2 room3 (0:Int)
def qeV (V:Sigma Inv) (xv:Den V.1) (s29:List Int) (s30:Int) (s31:Int) (s32:Int):Option AV:=some (.tup [(.tup []),(.abs V.1 V.2 xv),(.pbox (.leaf (.sl (.int .i32))) s29 none),(.pbox (.leaf (.int .i64)) s30 none),(.pbox (.leaf (.int .i64)) s31 none),(.pbox (.leaf (.int .i64)) s32 none)])
def qfO (V:Sigma Inv) (ret:Den V.1→List Int→Int→Int→Int→Option AV) (k0:Den V.1→List Int→Int→Int→Int→Option AV) (next:Den V.1→List Int→Int→Int→Int→Option AV) (_n:Nat) (xv:Den V.1) (s29:List Int) (s30:Int) (s31:Int) (s32:Int):Option AV :=
 bif (decide ((0:Int) < ((List.length s29:Nat):Int))) then
 bif ((qqn s30 s31 s29 s32)&&true) then
 bif (((decide ((0:Int)≤((0:Nat):Int)))&&(decide (((0:Nat):Int)≤(z114 s30 s31 s29 s32))))&&(decide ((z114 s30 s31 s29 s32)≤((List.length s29:Nat):Int)))) then
 bif (V.2.spec xv [⟨(.sl (.int .i32)),(List.drop (Int.toNat ((0:Nat):Int)) (List.take (Int.toNat (z114 s30 s31 s29 s32)) s29))⟩]).1 then
 bif (!(V.2.spec xv [⟨(.sl (.int .i32)),(List.drop (Int.toNat ((0:Nat):Int)) (List.take (Int.toNat (z114 s30 s31 s29 s32)) s29))⟩]).2.1) then
 ret (V.2.spec xv [⟨(.sl (.int .i32)),(List.drop (Int.toNat ((0:Nat):Int)) (List.take (Int.toNat (z114 s30 s31 s29 s32)) s29))⟩]).2.2 s29 s30 s31 s32
 else
 bif ((z114 s30 s31 s29 s32)==(0:Int)) then
 ret (V.2.spec xv [⟨(.sl (.int .i32)),(List.drop (Int.toNat ((0:Nat):Int)) (List.take (Int.toNat (z114 s30 s31 s29 s32)) s29))⟩]).2.2 s29 s30 s31 s32
 else
 bif (((decide ((0:Int)≤(z114 s30 s31 s29 s32)))&&(decide ((z114 s30 s31 s29 s32)≤((List.length s29:Nat):Int))))&&(decide (((List.length s29:Nat):Int)≤((List.length s29:Nat):Int)))) then
 next (V.2.spec xv [⟨(.sl (.int .i32)),(List.drop (Int.toNat ((0:Nat):Int)) (List.take (Int.toNat (z114 s30 s31 s29 s32)) s29))⟩]).2.2 (List.drop (Int.toNat (z114 s30 s31 s29 s32)) (List.take (Int.toNat ((List.length s29:Nat):Int)) s29)) s30 s31 (75:Int)
 else none
 else none
 else none
 else none
 else
 k0 xv s29 s30 s31 s32
def qhD (V:Sigma Inv) (ret:Den V.1→List Int→Int→Int→Int→Option AV) (k0:Den V.1→List Int→Int→Int→Int→Option AV):Nat→Den V.1→List Int→Int→Int→Int→Option AV
 | 0=>fun _ _ _ _ _=>none
 | n+1=>(qfO V) ret k0 ((qhD V) ret k0 n) n
def qeh (V:Sigma Inv) (_n:Nat) (xv:Den V.1) (s29:List Int) (s30:Int) (s31:Int) (s32:Int):Option AV :=
 (qeV V) xv s29 s30 s31 s32
def qyh (V:Sigma Inv) (n:Nat) (x0:Den V.1) (x1:List Int) (x2:Int) (x3:Int) (x4:Int):Option AV :=
 (qhD V) (qeV V) ((qeh V) n) n x0 x1 x2 x3 x4
def qqX (s8:List (List Int)) (s9:Int):Option AV:=some (.tup [(.dat (.sl (.sl (.int .i32))) s8 none),(.dat (.int .i64) s9 none)])
def qdl (n:Nat) (x:Bool×(List (List Int))×Int×(List (List Int))×Unit) (y0:List Int):Bool×Bool×(Bool×(List (List Int))×Int×(List (List Int))×Unit) :=
 bif x.1 then (false,false,x) else yfin (.pair (.sl (.sl (.int .i32))) (.pair (.int .i64) (.pair (.sl (.sl (.int .i32))) .unit))) x (
 bif (((List.length y0:Nat):Int)==(0:Int)) then
 some (.dat (.pair .bool (.pair (.sl (.sl (.int .i32))) (.pair (.int .i64) (.pair (.sl (.sl (.int .i32))) .unit)))) (true,(([]:List (List Int)),((12:Int),(x.2.2.2.1,())))) none)
 else
 bif ((qFE y0)&&true) then
 bif (decide (List.length x.2.2.2.1+List.length ([(z68 y0)]:List (List Int))≤room)) then
 some (.dat (.pair .bool (.pair (.sl (.sl (.int .i32))) (.pair (.int .i64) (.pair (.sl (.sl (.int .i32))) .unit)))) (false,(x.2.1,(x.2.2.1,((x.2.2.2.1++([(z68 y0)]:List (List Int))),())))) none)
 else none
 else none)
def qGv (n:Nat) (charset0:Int) (code1:Int) (t2:List Int) (first3:Int):Option AV :=
 bif ((qsY charset0 code1 t2)&&true) then
 bif (((z66 charset0 code1 t2).2) != (0:Int)) then
 qqX ([]:List (List Int)) ((z66 charset0 code1 t2).2)
 else
 bif (z113 (qdl n) (false,(([]:List (List Int)),((0:Int),(([]:List (List Int)),())))) t2 charset0 code1 first3).1 then
 bif (z113 (qdl n) (false,(([]:List (List Int)),((0:Int),(([]:List (List Int)),())))) t2 charset0 code1 first3).2.1.1 then
 qqX (z113 (qdl n) (false,(([]:List (List Int)),((0:Int),(([]:List (List Int)),())))) t2 charset0 code1 first3).2.1.2.1 (z113 (qdl n) (false,(([]:List (List Int)),((0:Int),(([]:List (List Int)),())))) t2 charset0 code1 first3).2.1.2.2.1
 else
 qqX (z113 (qdl n) (false,(([]:List (List Int)),((0:Int),(([]:List (List Int)),())))) t2 charset0 code1 first3).2.1.2.2.2.1 (0:Int)
 else none
 else none
def qoq (s2:Int):Option AV:=some (.dat (.int .i64) s2 none)
def qcK (k0:Int→Option AV) (next:Int→Int→Int→Option AV) (_n:Nat) (c0:Int) (s3:Int) (s5:Int):Option AV :=
 bif (decide (s5 < (5:Int))) then
 bif (z157 (IntKind.wrap .i64 (s5+(1:Int))) c0) then
 bif (decide ((0:Int)≤(IntKind.wrap .i64 (s5+(1:Int))))) then
 next c0 (bits .or .i64 s3 (IntKind.wrap .i64 ((1:Int)*2 ^ (min (Int.toNat (IntKind.wrap .i64 (s5+(1:Int)))) (IntKind.bits .i64))))) (IntKind.wrap .i64 (s5+(1:Int)))
 else none
 else
 next c0 s3 (IntKind.wrap .i64 (s5+(1:Int)))
 else
 k0 s3
def qei (k0:Int→Option AV):Nat→Int→Int→Int→Option AV
 | 0=>fun _ _ _=>none
 | n+1=>qcK k0 (qei k0 n) n
def qbx (_n:Nat) (s3:Int):Option AV :=
 qoq s3
def qqY (n:Nat) (c0:Int):Option AV :=
 qei (qbx n) n c0 (0:Int) (0:Int)
def qyi (s2:Int):Option AV:=some (.dat (.int .i64) s2 none)
def qyj (_n:Nat) (x0:Int):Option AV :=
 bif ((qwP x0)&&true) then
 qyi (z201 x0)
 else none
def qor (s2:Int):Option AV:=some (.dat (.int .i64) s2 none)
def qyk (_n:Nat) (sets0:Int):Option AV :=
 bif (sets0==(0:Int)) then
 qor (0:Int)
 else
 bif ((qqo (IntKind.wrap .u64 sets0))&&true) then
 qor (z158 (IntKind.wrap .u64 sets0))
 else none
def qyl (s2:Int) (s3:Int):Option AV:=some (.tup [(.dat (.int .i64) s2 none),(.dat (.int .i64) s3 none)])
def qeW (k0:Int→Option AV) (next:Int→List Int→Int→Int→Option AV) (_n:Nat) (all4:Int) (s7:List Int) (s8:Int) (s9:Int):Option AV :=
 bif (decide (s9 < s8)) then
 bif ((decide ((0:Int)≤s9))&&(decide (s9 < (List.length s7:Nat)))) then
 next (bits .and .i64 all4 (z116 (List.getD s7 (Int.toNat s9) (0:Int)))) s7 s8 (IntKind.wrap .i64 (s9+(1:Int)))
 else none
 else
 k0 all4
def qos (k0:Int→Option AV):Nat→Int→List Int→Int→Int→Option AV
 | 0=>fun _ _ _ _=>none
 | n+1=>qeW k0 (qos k0 n) n
def qdm (_n:Nat) (all4:Int):Option AV :=
 bif (all4==(0:Int)) then
 qyl (0:Int) (7:Int)
 else
 bif ((qqp all4)&&true) then
 qyl (z117 all4) (0:Int)
 else none
def qBP (n:Nat) (t0:List Int):Option AV :=
 qos (qdm n) n (62:Int) t0 ((List.length t0:Nat):Int) (0:Int)
def qym (s6:Int):Option AV:=some (.dat (.int .i64) s6 none)
def qyn (_n:Nat) (charset0:Int) (code1:Int) (t2:List Int):Option AV :=
 bif ((qfn charset0 code1 t2)&&true) then
 qym ((z112 charset0 code1 t2).1)
 else none
def qyo (s4:Int):Option AV:=some (.dat (.int .i64) s4 none)
def qyp (_n:Nat) (charset0:Int) (t1:List Int):Option AV :=
 bif ((qii charset0 (1:Int) t1)&&true) then
 bif ((qii charset0 (2:Int) t1)&&true) then
 qyo (IntKind.wrap .i64 ((z159 charset0 (1:Int) t1) - (z159 charset0 (2:Int) t1)))
 else none
 else none
def qqZ (s4:Int) (s5:Int):Option AV:=some (.tup [(.dat (.int .i64) s4 none),(.dat (.int .i64) s5 none)])
def qGw (_n:Nat) (charset0:Int) (t1:List Int):Option AV :=
 bif ((qfn charset0 (1:Int) t1)&&true) then
 bif (((z112 charset0 (1:Int) t1).2) != (0:Int)) then
 qqZ (0:Int) ((z112 charset0 (1:Int) t1).2)
 else
 bif ((qql charset0 t1)&&true) then
 bif (decide ((0:Int)≤(z118 charset0 t1))) then
 qqZ (2:Int) (0:Int)
 else
 qqZ (1:Int) (0:Int)
 else none
 else none
def qyq (s2:Int) (s3:Int) (s4:Int):Option AV:=some (.tup [(.dat (.int .i64) s2 none),(.dat (.int .i64) s3 none),(.dat (.int .i64) s4 none)])
def qGx (_n:Nat) (t0:List Int):Option AV :=
 bif ((qBk t0)&&true) then
 bif (((z71 t0).2) != (0:Int)) then
 qyq (0:Int) (0:Int) ((z71 t0).2)
 else
 bif ((qBi ((z71 t0).1) t0)&&true) then
 qyq ((z71 t0).1) ((z72 ((z71 t0).1) t0).1) ((z72 ((z71 t0).1) t0).2)
 else none
 else none
def qyr (s2:UInt8):Option AV:=some (.dat .byte s2 none)
def qys (_n:Nat) (n0:Int):Option AV :=
 bif ((decide ((0:Int)≤(bits .and .i64 n0 (15:Int))))&&(decide ((bits .and .i64 n0 (15:Int)) < (List.length ([48,49,50,51,52,53,54,55,56,57,65,66,67,68,69,70]:List UInt8):Nat)))) then
 qyr (List.getD ([48,49,50,51,52,53,54,55,56,57,65,66,67,68,69,70]:List UInt8) (Int.toNat (bits .and .i64 n0 (15:Int))) (0:UInt8))
 else none
def qyt (s2:List UInt8):Option AV:=some (.dat (.sl .byte) s2 (some (2,5)))
def qyu (_n:Nat) (c0:UInt8):Option AV :=
 bif ((qcW (IntKind.wrap .i64 ((UInt8.toNat (UInt8.ofNat (UInt8.toNat c0 / 2 ^ (min (Int.toNat (4:Int)) 8))):Nat):Int)))&&true) then
 bif ((qcW (IntKind.wrap .i64 ((UInt8.toNat c0:Nat):Int)))&&true) then
 qyt ([(z181 (IntKind.wrap .i64 ((UInt8.toNat (UInt8.ofNat (UInt8.toNat c0 / 2 ^ (min (Int.toNat (4:Int)) 8))):Nat):Int))),(z181 (IntKind.wrap .i64 ((UInt8.toNat c0:Nat):Int)))]:List UInt8)
 else none
 else none
def qEC (s6:List UInt8):Option AV:=some (.dat (.sl .byte) s6 (some (6,5)))
def qGy (_n:Nat) (b0:List UInt8) (sign1:UInt8) (c2:UInt8):Option AV :=
 bif ((qzr b0)&&true) then
 bif (decide (List.length (z38 b0)+List.length ([sign1]:List UInt8)≤room)) then
 bif (decide (List.length ((z38 b0)++([sign1]:List UInt8))+List.length (z130 c2)≤room)) then
 qEC (((z38 b0)++([sign1]:List UInt8))++(z130 c2))
 else none
 else none
 else none
def qmf (s2:List UInt8):Option AV:=some (.dat (.sl .byte) s2 (some (2,5)))
def qeX (k0:List UInt8→Option AV) (next:List UInt8→List UInt8→Int→Int→Option AV) (_n:Nat) (out3:List UInt8) (s9:List UInt8) (s10:Int) (s11:Int):Option AV :=
 bif (decide (s11 < s10)) then
 bif ((decide ((0:Int)≤s11))&&(decide (s11 < (List.length s9:Nat)))) then
 bif ((List.getD s9 (Int.toNat s11) (0:UInt8))==(32:UInt8)) then
 bif (decide (List.length out3+List.length ([(95:UInt8)]:List UInt8)≤room)) then
 next (out3++([(95:UInt8)]:List UInt8)) s9 s10 (IntKind.wrap .i64 (s11+(1:Int)))
 else none
 else
 bif ((z84 (List.getD s9 (Int.toNat s11) (0:UInt8)))==(1:Int)) then
 bif (decide (List.length out3+List.length ([(List.getD s9 (Int.toNat s11) (0:UInt8))]:List UInt8)≤room)) then
 next (out3++([(List.getD s9 (Int.toNat s11) (0:UInt8))]:List UInt8)) s9 s10 (IntKind.wrap .i64 (s11+(1:Int)))
 else none
 else
 bif ((qDI out3 (61:UInt8) (List.getD s9 (Int.toNat s11) (0:UInt8)))&&true) then
 next (z85 out3 (61:UInt8) (List.getD s9 (Int.toNat s11) (0:UInt8))) s9 s10 (IntKind.wrap .i64 (s11+(1:Int)))
 else none
 else none
 else
 k0 out3
def qot (k0:List UInt8→Option AV):Nat→List UInt8→List UInt8→Int→Int→Option AV
 | 0=>fun _ _ _ _=>none
 | n+1=>qeX k0 (qot k0 n) n
def qhE (_n:Nat) (out3:List UInt8):Option AV :=
 qmf out3
def qBQ (n:Nat) (s0:List UInt8):Option AV :=
 bif ((qhZ s0)&&true) then
 bif (((decide ((0:Int)≤(0:Int)))&&(decide ((0:Int)≤(z83 s0))))&&(decide ((z83 s0)≤(room:Int)))) then
 qot (qhE n) n (List.replicate (Int.toNat (0:Int)) (0:UInt8)) s0 ((List.length s0:Nat):Int) (0:Int)
 else none
 else none
def qyv (s2:UInt8):Option AV:=some (.dat .byte s2 none)
def qyw (_n:Nat) (n0:Int):Option AV :=
 bif ((decide ((0:Int)≤(bits .and .i64 n0 (63:Int))))&&(decide ((bits .and .i64 n0 (63:Int)) < (List.length ([65,66,67,68,69,70,71,72,73,74,75,76,77,78,79,80,81,82,83,84,85,86,87,88,89,90,97,98,99,100,101,102,103,104,105,106,107,108,109,110,111,112,113,114,115,116,117,118,119,120,121,122,48,49,50,51,52,53,54,55,56,57,43,47]:List UInt8):Nat)))) then
 qyv (List.getD ([65,66,67,68,69,70,71,72,73,74,75,76,77,78,79,80,81,82,83,84,85,86,87,88,89,90,97,98,99,100,101,102,103,104,105,106,107,108,109,110,111,112,113,114,115,116,117,118,119,120,121,122,48,49,50,51,52,53,54,55,56,57,43,47]:List UInt8) (Int.toNat (bits .and .i64 n0 (63:Int))) (0:UInt8))
 else none
def qmg (s2:List UInt8):Option AV:=some (.dat (.sl .byte) s2 (some (2,5)))
def qyx (k2:List UInt8→Int→Int→List UInt8→Int→Int→Option AV) (next:List UInt8→Int→Int→List UInt8→Int→Int→Option AV) (_n:Nat) (out3:List UInt8) (held4:Int) (many5:Int) (s8:List UInt8) (s9:Int) (s10:Int):Option AV :=
 bif (decide ((6:Int)≤many5)) then
 bif (decide ((0:Int)≤(IntKind.wrap .i64 (many5 - (6:Int))))) then
 bif (decide (List.length out3+List.length ([(z132 (Int.fdiv held4 (2 ^ (min (Int.toNat (IntKind.wrap .i64 (many5 - (6:Int)))) (IntKind.bits .i64)))))]:List UInt8)≤room)) then
 next (out3++([(z132 (Int.fdiv held4 (2 ^ (min (Int.toNat (IntKind.wrap .i64 (many5 - (6:Int)))) (IntKind.bits .i64)))))]:List UInt8)) held4 (IntKind.wrap .i64 (many5 - (6:Int))) s8 s9 s10
 else none
 else none
 else
 k2 out3 held4 many5 s8 s9 s10
def qeY (k2:List UInt8→Int→Int→List UInt8→Int→Int→Option AV):Nat→List UInt8→Int→Int→List UInt8→Int→Int→Option AV
 | 0=>fun _ _ _ _ _ _=>none
 | n+1=>qyx k2 (qeY k2 n) n
def qbU (_k0:List UInt8→Int→Int→Option AV) (next:List UInt8→Int→Int→List UInt8→Int→Int→Option AV) (_n:Nat) (out3:List UInt8) (held4:Int) (many5:Int) (s8:List UInt8) (s9:Int) (s10:Int):Option AV :=
 bif (decide ((0:Int)≤many5)) then
 next out3 (bits .and .i64 held4 (IntKind.wrap .i64 ((IntKind.wrap .i64 ((1:Int)*2 ^ (min (Int.toNat many5) (IntKind.bits .i64)))) - (1:Int)))) many5 s8 s9 (IntKind.wrap .i64 (s10+(1:Int)))
 else none
def qdn (k0:List UInt8→Int→Int→Option AV) (next:List UInt8→Int→Int→List UInt8→Int→Int→Option AV) (n:Nat) (out3:List UInt8) (held4:Int) (many5:Int) (s8:List UInt8) (s9:Int) (s10:Int):Option AV :=
 bif (decide (s10 < s9)) then
 bif ((decide ((0:Int)≤s10))&&(decide (s10 < (List.length s8:Nat)))) then
 qeY (qbU k0 next n) n out3 (bits .or .i64 (IntKind.wrap .i64 (held4*2 ^ (min (Int.toNat (8:Int)) (IntKind.bits .i64)))) (IntKind.wrap .i64 ((UInt8.toNat (List.getD s8 (Int.toNat s10) (0:UInt8)):Nat):Int))) (IntKind.wrap .i64 (many5+(8:Int))) s8 s9 s10
 else none
 else
 k0 out3 held4 many5
def qou (k0:List UInt8→Int→Int→Option AV):Nat→List UInt8→Int→Int→List UInt8→Int→Int→Option AV
 | 0=>fun _ _ _ _ _ _=>none
 | n+1=>qdn k0 (qou k0 n) n
def qdo (_n:Nat) (out3:List UInt8) (held4:Int) (many5:Int):Option AV :=
 bif (decide ((0:Int) < many5)) then
 bif (decide ((0:Int)≤(IntKind.wrap .i64 ((6:Int) - many5)))) then
 bif (decide (List.length out3+List.length ([(z132 (IntKind.wrap .i64 (held4*2 ^ (min (Int.toNat (IntKind.wrap .i64 ((6:Int) - many5))) (IntKind.bits .i64)))))]:List UInt8)≤room)) then
 qmg (out3++([(z132 (IntKind.wrap .i64 (held4*2 ^ (min (Int.toNat (IntKind.wrap .i64 ((6:Int) - many5))) (IntKind.bits .i64)))))]:List UInt8))
 else none
 else none
 else
 qmg out3
def qBR (n:Nat) (s0:List UInt8):Option AV :=
 qou (qdo n) n ([]:List UInt8) (0:Int) (0:Int) s0 ((List.length s0:Nat):Int) (0:Int)
def qfq (s6:List UInt8) (s7:Int):Option AV:=some (.tup [(.dat (.sl .byte) s6 none),(.dat (.int .i64) s7 none)])
def qGz (_n:Nat) (charset0:Int) (code1:Int) (s2:List UInt8):Option AV :=
 bif (!(z44 charset0)) then
 qfq ([]:List UInt8) (10:Int)
 else
 bif ((z45 code1)==([]:List UInt8)) then
 qfq ([]:List UInt8) (3:Int)
 else
 bif (((List.length s2:Nat):Int)==(0:Int)) then
 qfq ([]:List UInt8) (3:Int)
 else
 bif ((qDN s2)&&true) then
 bif (code1==(1:Int)) then
 bif ((qHL s2)&&true) then
 bif (decide (List.length (z48 charset0 code1)≤room)) then
 bif (decide (List.length (z48 charset0 code1)+List.length (z47 s2)≤room)) then
 bif (decide (List.length ((z48 charset0 code1)++(z47 s2))+List.length ([63,61]:List UInt8)≤room)) then
 bif (decide ((75:Int) < ((List.length (((z48 charset0 code1)++(z47 s2))++([63,61]:List UInt8)):Nat):Int))) then
 qfq ([]:List UInt8) (12:Int)
 else
 qfq (((z48 charset0 code1)++(z47 s2))++([63,61]:List UInt8)) (0:Int)
 else none
 else none
 else none
 else none
 else
 bif (decide (List.length (z48 charset0 code1)≤room)) then
 bif (decide (List.length (z48 charset0 code1)+List.length (z46 s2)≤room)) then
 bif (decide (List.length ((z48 charset0 code1)++(z46 s2))+List.length ([63,61]:List UInt8)≤room)) then
 bif (decide ((75:Int) < ((List.length (((z48 charset0 code1)++(z46 s2))++([63,61]:List UInt8)):Nat):Int))) then
 qfq ([]:List UInt8) (12:Int)
 else
 qfq (((z48 charset0 code1)++(z46 s2))++([63,61]:List UInt8)) (0:Int)
 else none
 else none
 else none
 else none
def qyy (s6:List UInt8) (s7:Int):Option AV:=some (.tup [(.dat (.sl .byte) s6 none),(.dat (.int .i64) s7 none)])
def qGA (_n:Nat) (charset0:Int) (code1:Int) (p2:List Int):Option AV :=
 bif ((qiC charset0 p2)&&true) then
 bif (((z120 charset0 p2).2) != (0:Int)) then
 qyy ([]:List UInt8) ((z120 charset0 p2).2)
 else
 bif ((qDQ charset0 code1 ((z120 charset0 p2).1))&&true) then
 qyy ((z15 charset0 code1 ((z120 charset0 p2).1)).1) ((z15 charset0 code1 ((z120 charset0 p2).1)).2)
 else none
 else none
def qbV (s4:List (List UInt8)) (s5:Int):Option AV:=some (.tup [(.dat (.sl (.sl .byte)) s4 none),(.dat (.int .i64) s5 none)])
def qeZ (ret:List (List UInt8)→Int→Option AV) (k0:List (List UInt8)→Option AV) (next:Int→Int→List (List UInt8)→List (List Int)→Int→Int→Option AV) (_n:Nat) (charset6:Int) (code7:Int) (out10:List (List UInt8)) (s35:List (List Int)) (s36:Int) (s37:Int):Option AV :=
 bif (decide (s37 < s36)) then
 bif ((decide ((0:Int)≤s37))&&(decide (s37 < (List.length s35:Nat)))) then
 bif ((qBn charset6 code7 (List.getD s35 (Int.toNat s37) ([]:List Int)))&&true) then
 bif (((z75 charset6 code7 (List.getD s35 (Int.toNat s37) ([]:List Int))).2) != (0:Int)) then
 ret ([]:List (List UInt8)) ((z75 charset6 code7 (List.getD s35 (Int.toNat s37) ([]:List Int))).2)
 else
 bif (decide (List.length out10+List.length ([((z75 charset6 code7 (List.getD s35 (Int.toNat s37) ([]:List Int))).1)]:List (List UInt8))≤room)) then
 next charset6 code7 (out10++([((z75 charset6 code7 (List.getD s35 (Int.toNat s37) ([]:List Int))).1)]:List (List UInt8))) s35 s36 (IntKind.wrap .i64 (s37+(1:Int)))
 else none
 else none
 else none
 else
 k0 out10
def qov (ret:List (List UInt8)→Int→Option AV) (k0:List (List UInt8)→Option AV):Nat→Int→Int→List (List UInt8)→List (List Int)→Int→Int→Option AV
 | 0=>fun _ _ _ _ _ _=>none
 | n+1=>qeZ ret k0 (qov ret k0 n) n
def qhF (_n:Nat) (out10:List (List UInt8)):Option AV :=
 qbV out10 (0:Int)
def qBS (n:Nat) (t0:List Int) (first1:Int):Option AV :=
 bif ((qBm t0)&&true) then
 bif (((z30 t0).2.2) != (0:Int)) then
 qbV ([]:List (List UInt8)) ((z30 t0).2.2)
 else
 bif ((qBl ((z30 t0).1) ((z30 t0).2.1) t0 first1)&&true) then
 bif (((z28 ((z30 t0).1) ((z30 t0).2.1) t0 first1).2) != (0:Int)) then
 qbV ([]:List (List UInt8)) ((z28 ((z30 t0).1) ((z30 t0).2.1) t0 first1).2)
 else
 qov qbV (qhF n) n ((z30 t0).1) ((z30 t0).2.1) ([]:List (List UInt8)) ((z28 ((z30 t0).1) ((z30 t0).2.1) t0 first1).1) ((List.length ((z28 ((z30 t0).1) ((z30 t0).2.1) t0 first1).1):Nat):Int) (0:Int)
 else none
 else none
def qyz (s4:List UInt8) (s5:Int):Option AV:=some (.tup [(.dat (.sl .byte) s4 none),(.dat (.int .i64) s5 none)])
def qGB (_n:Nat) (t0:List Int) (first1:Int):Option AV :=
 bif ((qku t0 first1)&&true) then
 bif (((z32 t0 first1).2) != (0:Int)) then
 qyz ([]:List UInt8) ((z32 t0 first1).2)
 else
 bif ((qsZ ((z32 t0 first1).1) ([(13:UInt8),(10:UInt8),(32:UInt8)]:List UInt8))&&true) then
 qyz (z77 ((z32 t0 first1).1) ([(13:UInt8),(10:UInt8),(32:UInt8)]:List UInt8)) (0:Int)
 else none
 else none
def qED (s4:Int):Option AV:=some (.dat (.int .i64) s4 none)
def qGC (_n:Nat) (t0:List Int) (first1:Int):Option AV :=
 bif ((qku t0 first1)&&true) then
 qED ((List.length ((z32 t0 first1).1):Nat):Int)
 else none
def qmh (s0:Bool):Option AV:=some (.dat .bool s0 none)
def qGD (_n:Nat):Option AV :=
 bif ((qFF ([(233:Int)]:List Int) (75:Int))&&true) then
 bif ((qku ([(233:Int)]:List Int) (10:Int))&&true) then
 bif (((z34 ([(233:Int)]:List Int) (75:Int)).1)==([61,63,105,115,111,45,56,56,53,57,45,49,63,81,63,61,69,57,63,61]:List UInt8)) then
 bif (((z34 ([(233:Int)]:List Int) (75:Int)).2)==(0:Int)) then
 bif (((z32 ([(233:Int)]:List Int) (10:Int)).2)==(12:Int)) then
 bif ((qFG ([(233:Int)]:List Int) (75:Int))&&true) then
 qmh ((z36 ([(233:Int)]:List Int) (75:Int))==(1:Int))
 else none
 else
 qmh false
 else
 qmh false
 else
 qmh false
 else none
 else none
def qhX (s4:Bool):Option AV:=some (.dat .bool s4 none)
def qiu (ret:Bool→Option AV) (k0:List Int→List Int→Option AV) (next:List Int→Int→List (List UInt8)→List Int→List (List UInt8)→Int→Int→Option AV) (_n:Nat) (t0:List Int) (first1:Int) (l5:List (List UInt8)) (all7:List Int) (s30:List (List UInt8)) (s31:Int) (s32:Int):Option AV :=
 bif (decide (s32 < s31)) then
 bif ((decide ((0:Int)≤s32))&&(decide (s32 < (List.length s30:Nat)))) then
 bif ((qDP (List.getD s30 (Int.toNat s32) ([]:List UInt8)))&&true) then
 bif (!((z20 (List.getD s30 (Int.toNat s32) ([]:List UInt8))).2)) then
 ret false
 else
 bif ((qDO (List.getD s30 (Int.toNat s32) ([]:List UInt8)))&&true) then
 bif (!(z25 (List.getD s30 (Int.toNat s32) ([]:List UInt8)))) then
 ret false
 else
 bif (decide ((75:Int) < ((List.length (List.getD s30 (Int.toNat s32) ([]:List UInt8)):Nat):Int))) then
 ret false
 else
 bif (s32==(0:Int)) then
 bif (decide (first1 < ((List.length (List.getD s30 (Int.toNat s32) ([]:List UInt8)):Nat):Int))) then
 ret false
 else
 bif ((decide ((0:Int)≤(0:Int)))&&(decide ((0:Int) < (List.length l5:Nat)))) then
 bif ((qhM (List.getD s30 (Int.toNat s32) ([]:List UInt8)))&&true) then
 bif ((qhM (List.getD l5 (Int.toNat (0:Int)) ([]:List UInt8)))&&true) then
 bif ((z23 (List.getD s30 (Int.toNat s32) ([]:List UInt8))) != (z23 (List.getD l5 (Int.toNat (0:Int)) ([]:List UInt8)))) then
 ret false
 else
 bif (decide (List.length all7+List.length ((z20 (List.getD s30 (Int.toNat s32) ([]:List UInt8))).1)≤room)) then
 next t0 first1 l5 (all7++((z20 (List.getD s30 (Int.toNat s32) ([]:List UInt8))).1)) s30 s31 (IntKind.wrap .i64 (s32+(1:Int)))
 else none
 else none
 else none
 else none
 else
 bif ((decide ((0:Int)≤(0:Int)))&&(decide ((0:Int) < (List.length l5:Nat)))) then
 bif ((qhM (List.getD s30 (Int.toNat s32) ([]:List UInt8)))&&true) then
 bif ((qhM (List.getD l5 (Int.toNat (0:Int)) ([]:List UInt8)))&&true) then
 bif ((z23 (List.getD s30 (Int.toNat s32) ([]:List UInt8))) != (z23 (List.getD l5 (Int.toNat (0:Int)) ([]:List UInt8)))) then
 ret false
 else
 bif (decide (List.length all7+List.length ((z20 (List.getD s30 (Int.toNat s32) ([]:List UInt8))).1)≤room)) then
 next t0 first1 l5 (all7++((z20 (List.getD s30 (Int.toNat s32) ([]:List UInt8))).1)) s30 s31 (IntKind.wrap .i64 (s32+(1:Int)))
 else none
 else none
 else none
 else none
 else none
 else none
 else none
 else
 k0 t0 all7
def z9_l8 (ret:Bool→Option AV) (k0:List Int→List Int→Option AV):Nat→List Int→Int→List (List UInt8)→List Int→List (List UInt8)→Int→Int→Option AV
 | 0=>fun _ _ _ _ _ _ _=>none
 | n+1=>qiu ret k0 (z9_l8 ret k0 n) n
def qhG (_n:Nat) (t0:List Int) (all7:List Int):Option AV :=
 bif ((qDR all7 t0)&&true) then
 bif (z21 all7 t0) then
 qhX z27
 else
 qhX false
 else none
def z9_sh (n:Nat) (t0:List Int) (first1:Int):Option AV :=
 bif (decide ((80:Int) < ((List.length t0:Nat):Int))) then
 qhX z27
 else
 bif ((qku t0 first1)&&true) then
 bif (((z32 t0 first1).2) != (0:Int)) then
 bif (((List.length ((z32 t0 first1).1):Nat):Int)==(0:Int)) then
 qhX z27
 else
 qhX false
 else
 z9_l8 qhX (qhG n) n t0 first1 ((z32 t0 first1).1) ([]:List Int) ((z32 t0 first1).1) ((List.length ((z32 t0 first1).1):Nat):Int) (0:Int)
 else none
end
end Go.Av
