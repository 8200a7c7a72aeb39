import Derived.Test.YtopepdfipgfakaaDoorCwM
import Derived.Test.YtopepdfipgfakaaDoorAvE
namespace Go.Av
set_option linter.unusedSimpArgs false
set_option linter.unusedVariables false
noncomputable section
def qbQ (s2:Int):Option AV:=some (.dat (.int .i64) s2 none)
def qul (_n:Nat) (charset0:Int):Option AV :=
 bif (charset0==(1:Int)) then
 qbQ (128:Int)
 else
 bif (charset0==(2:Int)) then
 bif (charset0==(2:Int)) then
 qbQ (256:Int)
 else
 bif (charset0==(4:Int)) then
 qbQ (251:Int)
 else
 bif (charset0==(5:Int)) then
 qbQ (1112064:Int)
 else
 qbQ (0:Int)
 else
 bif (charset0==(3:Int)) then
 qbQ (256:Int)
 else
 bif (charset0==(4:Int)) then
 qbQ (251:Int)
 else
 bif (charset0==(5:Int)) then
 qbQ (1112064:Int)
 else
 qbQ (0:Int)
def qss (s2:Bool):Option AV:=some (.dat .bool s2 none)
def qxq (_n:Nat) (c0:Int):Option AV :=
 qss (decide ((IntKind.wrap .u32 c0) < (256:Int)))
def qst (s0:List (UInt8×(Int×Unit))):Option AV:=some (.dat (.arr 8 (.pair .byte (.pair (.int .i32) .unit))) s0 none)
def qxr (_n:Nat):Option AV :=
 qst ([((164:UInt8),((8364:Int),())),((166:UInt8),((352:Int),())),((168:UInt8),((353:Int),())),((180:UInt8),((381:Int),())),((184:UInt8),((382:Int),())),((188:UInt8),((338:Int),())),((189:UInt8),((339:Int),())),((190:UInt8),((376:Int),()))]:List (UInt8×(Int×Unit)))
def qdy (s2:UInt8) (s3:Bool):Option AV:=some (.tup [(.dat .byte s2 none),(.dat .bool s3 none)])
def qnL (ret:UInt8→Bool→Option AV) (k0:Int→Option AV) (next:Int→List (UInt8×(Int×Unit))→Int→Option AV) (_n:Nat) (c0:Int) (s6:List (UInt8×(Int×Unit))) (s7:Int):Option AV :=
 bif (decide (s7 < (8:Int))) then
 bif ((decide ((0:Int)≤s7))&&(decide (s7 < (8:Nat)))) then
 bif (c0==(List.getD s6 (Int.toNat s7) ((0:UInt8),((0:Int),()))).2.1) then
 ret (List.getD s6 (Int.toNat s7) ((0:UInt8),((0:Int),()))).1 true
 else
 bif (c0==(IntKind.wrap .i32 ((UInt8.toNat (List.getD s6 (Int.toNat s7) ((0:UInt8),((0:Int),()))).1:Nat):Int))) then
 ret (0:UInt8) false
 else
 next c0 s6 (IntKind.wrap .i64 (s7+(1:Int)))
 else none
 else
 k0 c0
def qlz (ret:UInt8→Bool→Option AV) (k0:Int→Option AV):Nat→Int→List (UInt8×(Int×Unit))→Int→Option AV
 | 0=>fun _ _ _=>none
 | n+1=>qnL ret k0 (qlz ret k0 n) n
def qcX (_n:Nat) (c0:Int):Option AV :=
 bif (decide (c0 < (0:Int))) then
 qdy (0:UInt8) false
 else
 bif (decide ((256:Int)≤c0)) then
 qdy (0:UInt8) false
 else
 qdy (UInt8.ofNat (Int.toNat (IntKind.wrap .u8 c0))) true
def qum (n:Nat) (c0:Int):Option AV :=
 qlz qdy (qcX n) n c0 z72 (0:Int)
def qsu (s2:Bool):Option AV:=some (.dat .bool s2 none)
def qxs (_n:Nat) (c0:Int):Option AV :=
 qsu ((z53 c0).2)
def qhs (s4:Int):Option AV:=some (.dat (.int .i64) s4 none)
def qcY (ret:Int→Option AV) (k0:Option AV) (next:List Int→Int→Int→Int→Option AV) (_n:Nat) (s0:List Int) (v1:Int) (s7:Int) (s8:Int):Option AV :=
 bif (decide (s8 < s7)) then
 bif ((decide ((0:Int)≤s8))&&(decide (s8 < (List.length s0:Nat)))) then
 bif (v1==(List.getD s0 (Int.toNat s8) (0:Int))) then
 ret s8
 else
 next s0 v1 s7 (IntKind.wrap .i64 (s8+(1:Int)))
 else none
 else
 k0
def qis (ret:Int→Option AV) (k0:Option AV):Nat→List Int→Int→Int→Int→Option AV
 | 0=>fun _ _ _ _=>none
 | n+1=>qcY ret k0 (qis ret k0 n) n
def qeE (_n:Nat):Option AV :=
 qhs (-1:Int)
def qrn (n:Nat) (s0:List Int) (v1:Int):Option AV :=
 qis qhs (qeE n) n s0 v1 ((List.length s0:Nat):Int) (0:Int)
def qsv (s0:List Int):Option AV:=some (.dat (.sl (.int .i32)) s0 none)
def qxt (_n:Nat):Option AV :=
 qsv (List.drop 0 (List.take 32 ([(8364:Int),(0:Int),(8218:Int),(402:Int),(8222:Int),(8230:Int),(8224:Int),(8225:Int),(710:Int),(8240:Int),(352:Int),(8249:Int),(338:Int),(0:Int),(381:Int),(0:Int),(0:Int),(8216:Int),(8217:Int),(8220:Int),(8221:Int),(8226:Int),(8211:Int),(8212:Int),(732:Int),(8482:Int),(353:Int),(8250:Int),(339:Int),(0:Int),(382:Int),(376:Int)]:List Int)))
def qad (s2:UInt8) (s3:Bool):Option AV:=some (.tup [(.dat .byte s2 none),(.dat .bool s3 none)])
def qun (_n:Nat) (c0:Int):Option AV :=
 bif (decide ((0:Int)≤c0)) then
 bif (decide (c0 < (128:Int))) then
 bif (decide (c0 < (128:Int))) then
 qad (UInt8.ofNat (Int.toNat (IntKind.wrap .u8 c0))) true
 else
 bif (decide (c0 < (256:Int))) then
 qad (0:UInt8) false
 else
 bif ((qhM z74 c0)&&true) then
 bif (decide ((z73 z74 c0) < (0:Int))) then
 qad (0:UInt8) false
 else
 qad (UInt8.ofNat (Int.toNat (IntKind.wrap .u8 (IntKind.wrap .i64 ((128:Int)+(z73 z74 c0)))))) true
 else none
 else
 bif (decide ((160:Int)≤c0)) then
 bif (decide (c0 < (256:Int))) then
 qad (UInt8.ofNat (Int.toNat (IntKind.wrap .u8 c0))) true
 else
 bif (decide (c0 < (256:Int))) then
 qad (0:UInt8) false
 else
 bif ((qhM z74 c0)&&true) then
 bif (decide ((z73 z74 c0) < (0:Int))) then
 qad (0:UInt8) false
 else
 qad (UInt8.ofNat (Int.toNat (IntKind.wrap .u8 (IntKind.wrap .i64 ((128:Int)+(z73 z74 c0)))))) true
 else none
 else
 bif (decide (c0 < (256:Int))) then
 qad (0:UInt8) false
 else
 bif ((qhM z74 c0)&&true) then
 bif (decide ((z73 z74 c0) < (0:Int))) then
 qad (0:UInt8) false
 else
 qad (UInt8.ofNat (Int.toNat (IntKind.wrap .u8 (IntKind.wrap .i64 ((128:Int)+(z73 z74 c0)))))) true
 else none
 else
 bif (decide ((160:Int)≤c0)) then
 bif (decide (c0 < (256:Int))) then
 qad (UInt8.ofNat (Int.toNat (IntKind.wrap .u8 c0))) true
 else
 bif (decide (c0 < (256:Int))) then
 qad (0:UInt8) false
 else
 bif ((qhM z74 c0)&&true) then
 bif (decide ((z73 z74 c0) < (0:Int))) then
 qad (0:UInt8) false
 else
 qad (UInt8.ofNat (Int.toNat (IntKind.wrap .u8 (IntKind.wrap .i64 ((128:Int)+(z73 z74 c0)))))) true
 else none
 else
 bif (decide (c0 < (256:Int))) then
 qad (0:UInt8) false
 else
 bif ((qhM z74 c0)&&true) then
 bif (decide ((z73 z74 c0) < (0:Int))) then
 qad (0:UInt8) false
 else
 qad (UInt8.ofNat (Int.toNat (IntKind.wrap .u8 (IntKind.wrap .i64 ((128:Int)+(z73 z74 c0)))))) true
 else none
def qsw (s2:Bool):Option AV:=some (.dat .bool s2 none)
def qxu (_n:Nat) (c0:Int):Option AV :=
 qsw ((z55 c0).2)
def qnM (s2:Bool):Option AV:=some (.dat .bool s2 none)
def qup (_n:Nat) (c0:Int):Option AV :=
 bif (decide ((55296:Int)≤c0)) then
 qnM (decide (c0≤(57343:Int)))
 else
 qnM false
def qnN (s2:Bool):Option AV:=some (.dat .bool s2 none)
def quq (_n:Nat) (c0:Int):Option AV :=
 bif (decide ((IntKind.wrap .u32 c0)≤(1114111:Int))) then
 qnN (!(z79 c0))
 else
 qnN false
def qdz (s4:Bool):Option AV:=some (.dat .bool s4 none)
def qur (_n:Nat) (charset0:Int) (c1:Int):Option AV :=
 bif (charset0==(1:Int)) then
 bif (decide ((0:Int)≤c1)) then
 qdz (decide (c1 < (128:Int)))
 else
 qdz false
 else
 bif (charset0==(2:Int)) then
 qdz (z62 c1)
 else
 bif (charset0==(3:Int)) then
 qdz (z63 c1)
 else
 bif (charset0==(4:Int)) then
 qdz (z64 c1)
 else
 bif (charset0==(5:Int)) then
 qdz (z65 c1)
 else
 qdz false
def qht (s4:Int):Option AV:=some (.dat (.int .i64) s4 none)
def qcZ (ret:Int→Option AV) (k0:Option AV) (next:Int→List Int→Int→Int→Option AV) (_n:Nat) (charset0:Int) (s7:List Int) (s8:Int) (s9:Int):Option AV :=
 bif (decide (s9 < s8)) then
 bif ((decide ((0:Int)≤s9))&&(decide (s9 < (List.length s7:Nat)))) then
 bif (!(z47 charset0 (List.getD s7 (Int.toNat s9) (0:Int)))) then
 ret s9
 else
 next charset0 s7 s8 (IntKind.wrap .i64 (s9+(1:Int)))
 else none
 else
 k0
def qit (ret:Int→Option AV) (k0:Option AV):Nat→Int→List Int→Int→Int→Option AV
 | 0=>fun _ _ _ _=>none
 | n+1=>qcZ ret k0 (qit ret k0 n) n
def qeF (_n:Nat):Option AV :=
 qht (-1:Int)
def qro (n:Nat) (charset0:Int) (t1:List Int):Option AV :=
 qit qht (qeF n) n charset0 t1 ((List.length t1:Nat):Int) (0:Int)
def qnO (s4:Bool):Option AV:=some (.dat .bool s4 none)
def qus (_n:Nat) (charset0:Int) (t1:List Int):Option AV :=
 bif (decide ((0:Int) < (z33 charset0))) then
 bif ((qse charset0 t1)&&true) then
 qnO ((z50 charset0 t1)==(-1:Int))
 else none
 else
 qnO false
def qsx (s2:Bool):Option AV:=some (.dat .bool s2 none)
def qxv (_n:Nat) (c0:Int):Option AV :=
 qsx (!(z65 c0))
def qhu (s4:Int):Option AV:=some (.dat (.int .i64) s4 none)
def qda (ret:Int→Option AV) (k0:Option AV) (next:List Int→Int→Int→Option AV) (_n:Nat) (s0:List Int) (s7:Int) (s8:Int):Option AV :=
 bif (decide (s8 < s7)) then
 bif ((decide ((0:Int)≤s8))&&(decide (s8 < (List.length s0:Nat)))) then
 bif (z81 (List.getD s0 (Int.toNat s8) (0:Int))) then
 ret s8
 else
 next s0 s7 (IntKind.wrap .i64 (s8+(1:Int)))
 else none
 else
 k0
def qiu (ret:Int→Option AV) (k0:Option AV):Nat→List Int→Int→Int→Option AV
 | 0=>fun _ _ _=>none
 | n+1=>qda ret k0 (qiu ret k0 n) n
def qeG (_n:Nat):Option AV :=
 qhu (-1:Int)
def qrp (n:Nat) (s0:List Int):Option AV :=
 qiu qhu (qeG n) n s0 ((List.length s0:Nat):Int) (0:Int)
def qsy (s2:Int):Option AV:=some (.dat (.int .i64) s2 none)
def qut (_n:Nat) (t0:List Int):Option AV :=
 bif ((qrU t0)&&true) then
 qsy (z80 t0)
 else none
def qsz (s2:Bool):Option AV:=some (.dat .bool s2 none)
def quu (_n:Nat) (t0:List Int):Option AV :=
 bif ((qrV t0)&&true) then
 qsz ((z68 t0)==(-1:Int))
 else none
def qfq (s2:Int):Option AV:=some (.dat (.int .i64) s2 none)
def quv (_n:Nat) (c0:Int):Option AV :=
 bif (!(z65 c0)) then
 qfq (0:Int)
 else
 bif (decide (c0 < (128:Int))) then
 qfq (1:Int)
 else
 bif (decide (c0 < (2048:Int))) then
 qfq (2:Int)
 else
 bif (decide (c0 < (65536:Int))) then
 qfq (3:Int)
 else
 qfq (4:Int)
def qhv (s2:UInt8):Option AV:=some (.dat .byte s2 none)
def quw (_n:Nat) (n0:Int):Option AV :=
 bif (n0==(2:Int)) then
 qhv (192:UInt8)
 else
 bif (n0==(3:Int)) then
 qhv (224:UInt8)
 else
 bif (n0==(4:Int)) then
 qhv (240:UInt8)
 else
 qhv (0:UInt8)
def qfr (s4:List UInt8) (s5:Int):Option AV:=some (.tup [(.dat (.sl .byte) s4 none),(.dat (.int .i64) s5 none)])
def qux (_n:Nat) (b0:List UInt8) (c1:Int):Option AV :=
 bif ((z69 c1)==(0:Int)) then
 qfr ([]:List UInt8) (7:Int)
 else
 bif (decide ((0:Int)≤(IntKind.wrap .i64 ((6:Int)*(IntKind.wrap .i64 ((z69 c1) - (1:Int))))))) then
 bif ((qoB b0)&&true) then
 bif (decide (List.length (z70 b0)+List.length ([((z71 (z69 c1)) ||| (UInt8.ofNat (Int.toNat (IntKind.wrap .u8 (Int.fdiv c1 (2 ^ (min (Int.toNat (IntKind.wrap .i64 ((6:Int)*(IntKind.wrap .i64 ((z69 c1) - (1:Int)))))) (IntKind.bits .i32))))))))]:List UInt8)≤room)) then
 bif ((z69 c1)==(4:Int)) then
 bif (decide (List.length ((z70 b0)++([((z71 (z69 c1)) ||| (UInt8.ofNat (Int.toNat (IntKind.wrap .u8 (Int.fdiv c1 (2 ^ (min (Int.toNat (IntKind.wrap .i64 ((6:Int)*(IntKind.wrap .i64 ((z69 c1) - (1:Int)))))) (IntKind.bits .i32))))))))]:List UInt8))+List.length ([((128:UInt8) ||| ((UInt8.ofNat (Int.toNat (IntKind.wrap .u8 (Int.fdiv c1 (2 ^ (min (Int.toNat (12:Int)) (IntKind.bits .i32))))))) &&& (63:UInt8)))]:List UInt8)≤room)) then
 bif (decide (List.length (((z70 b0)++([((z71 (z69 c1)) ||| (UInt8.ofNat (Int.toNat (IntKind.wrap .u8 (Int.fdiv c1 (2 ^ (min (Int.toNat (IntKind.wrap .i64 ((6:Int)*(IntKind.wrap .i64 ((z69 c1) - (1:Int)))))) (IntKind.bits .i32))))))))]:List UInt8))++([((128:UInt8) ||| ((UInt8.ofNat (Int.toNat (IntKind.wrap .u8 (Int.fdiv c1 (2 ^ (min (Int.toNat (12:Int)) (IntKind.bits .i32))))))) &&& (63:UInt8)))]:List UInt8))+List.length ([((128:UInt8) ||| ((UInt8.ofNat (Int.toNat (IntKind.wrap .u8 (Int.fdiv c1 (2 ^ (min (Int.toNat (6:Int)) (IntKind.bits .i32))))))) &&& (63:UInt8)))]:List UInt8)≤room)) then
 bif (decide (List.length ((((z70 b0)++([((z71 (z69 c1)) ||| (UInt8.ofNat (Int.toNat (IntKind.wrap .u8 (Int.fdiv c1 (2 ^ (min (Int.toNat (IntKind.wrap .i64 ((6:Int)*(IntKind.wrap .i64 ((z69 c1) - (1:Int)))))) (IntKind.bits .i32))))))))]:List UInt8))++([((128:UInt8) ||| ((UInt8.ofNat (Int.toNat (IntKind.wrap .u8 (Int.fdiv c1 (2 ^ (min (Int.toNat (12:Int)) (IntKind.bits .i32))))))) &&& (63:UInt8)))]:List UInt8))++([((128:UInt8) ||| ((UInt8.ofNat (Int.toNat (IntKind.wrap .u8 (Int.fdiv c1 (2 ^ (min (Int.toNat (6:Int)) (IntKind.bits .i32))))))) &&& (63:UInt8)))]:List UInt8))+List.length ([((128:UInt8) ||| ((UInt8.ofNat (Int.toNat (IntKind.wrap .u8 c1))) &&& (63:UInt8)))]:List UInt8)≤room)) then
 qfr (((((z70 b0)++([((z71 (z69 c1)) ||| (UInt8.ofNat (Int.toNat (IntKind.wrap .u8 (Int.fdiv c1 (2 ^ (min (Int.toNat (IntKind.wrap .i64 ((6:Int)*(IntKind.wrap .i64 ((z69 c1) - (1:Int)))))) (IntKind.bits .i32))))))))]:List UInt8))++([((128:UInt8) ||| ((UInt8.ofNat (Int.toNat (IntKind.wrap .u8 (Int.fdiv c1 (2 ^ (min (Int.toNat (12:Int)) (IntKind.bits .i32))))))) &&& (63:UInt8)))]:List UInt8))++([((128:UInt8) ||| ((UInt8.ofNat (Int.toNat (IntKind.wrap .u8 (Int.fdiv c1 (2 ^ (min (Int.toNat (6:Int)) (IntKind.bits .i32))))))) &&& (63:UInt8)))]:List UInt8))++([((128:UInt8) ||| ((UInt8.ofNat (Int.toNat (IntKind.wrap .u8 c1))) &&& (63:UInt8)))]:List UInt8)) (0:Int)
 else none
 else none
 else none
 else
 bif ((z69 c1)==(3:Int)) then
 bif (decide (List.length ((z70 b0)++([((z71 (z69 c1)) ||| (UInt8.ofNat (Int.toNat (IntKind.wrap .u8 (Int.fdiv c1 (2 ^ (min (Int.toNat (IntKind.wrap .i64 ((6:Int)*(IntKind.wrap .i64 ((z69 c1) - (1:Int)))))) (IntKind.bits .i32))))))))]:List UInt8))+List.length ([((128:UInt8) ||| ((UInt8.ofNat (Int.toNat (IntKind.wrap .u8 (Int.fdiv c1 (2 ^ (min (Int.toNat (6:Int)) (IntKind.bits .i32))))))) &&& (63:UInt8)))]:List UInt8)≤room)) then
 bif (decide (List.length (((z70 b0)++([((z71 (z69 c1)) ||| (UInt8.ofNat (Int.toNat (IntKind.wrap .u8 (Int.fdiv c1 (2 ^ (min (Int.toNat (IntKind.wrap .i64 ((6:Int)*(IntKind.wrap .i64 ((z69 c1) - (1:Int)))))) (IntKind.bits .i32))))))))]:List UInt8))++([((128:UInt8) ||| ((UInt8.ofNat (Int.toNat (IntKind.wrap .u8 (Int.fdiv c1 (2 ^ (min (Int.toNat (6:Int)) (IntKind.bits .i32))))))) &&& (63:UInt8)))]:List UInt8))+List.length ([((128:UInt8) ||| ((UInt8.ofNat (Int.toNat (IntKind.wrap .u8 c1))) &&& (63:UInt8)))]:List UInt8)≤room)) then
 qfr ((((z70 b0)++([((z71 (z69 c1)) ||| (UInt8.ofNat (Int.toNat (IntKind.wrap .u8 (Int.fdiv c1 (2 ^ (min (Int.toNat (IntKind.wrap .i64 ((6:Int)*(IntKind.wrap .i64 ((z69 c1) - (1:Int)))))) (IntKind.bits .i32))))))))]:List UInt8))++([((128:UInt8) ||| ((UInt8.ofNat (Int.toNat (IntKind.wrap .u8 (Int.fdiv c1 (2 ^ (min (Int.toNat (6:Int)) (IntKind.bits .i32))))))) &&& (63:UInt8)))]:List UInt8))++([((128:UInt8) ||| ((UInt8.ofNat (Int.toNat (IntKind.wrap .u8 c1))) &&& (63:UInt8)))]:List UInt8)) (0:Int)
 else none
 else none
 else
 bif ((z69 c1)==(2:Int)) then
 bif (decide (List.length ((z70 b0)++([((z71 (z69 c1)) ||| (UInt8.ofNat (Int.toNat (IntKind.wrap .u8 (Int.fdiv c1 (2 ^ (min (Int.toNat (IntKind.wrap .i64 ((6:Int)*(IntKind.wrap .i64 ((z69 c1) - (1:Int)))))) (IntKind.bits .i32))))))))]:List UInt8))+List.length ([((128:UInt8) ||| ((UInt8.ofNat (Int.toNat (IntKind.wrap .u8 c1))) &&& (63:UInt8)))]:List UInt8)≤room)) then
 qfr (((z70 b0)++([((z71 (z69 c1)) ||| (UInt8.ofNat (Int.toNat (IntKind.wrap .u8 (Int.fdiv c1 (2 ^ (min (Int.toNat (IntKind.wrap .i64 ((6:Int)*(IntKind.wrap .i64 ((z69 c1) - (1:Int)))))) (IntKind.bits .i32))))))))]:List UInt8))++([((128:UInt8) ||| ((UInt8.ofNat (Int.toNat (IntKind.wrap .u8 c1))) &&& (63:UInt8)))]:List UInt8)) (0:Int)
 else none
 else
 qfr ((z70 b0)++([((z71 (z69 c1)) ||| (UInt8.ofNat (Int.toNat (IntKind.wrap .u8 (Int.fdiv c1 (2 ^ (min (Int.toNat (IntKind.wrap .i64 ((6:Int)*(IntKind.wrap .i64 ((z69 c1) - (1:Int)))))) (IntKind.bits .i32))))))))]:List UInt8)) (0:Int)
 else none
 else none
 else none
def qnP (s2:List UInt8) (s3:Int):Option AV:=some (.tup [(.dat (.sl .byte) s2 none),(.dat (.int .i64) s3 none)])
def qdb (k0:List UInt8→Option AV) (next:List UInt8→List Int→Int→Int→Option AV) (_n:Nat) (out4:List UInt8) (s12:List Int) (s13:Int) (s14:Int):Option AV :=
 bif (decide (s14 < s13)) then
 bif ((decide ((0:Int)≤s14))&&(decide (s14 < (List.length s12:Nat)))) then
 bif ((qrX ([]:List UInt8) (List.getD s12 (Int.toNat s14) (0:Int)))&&true) then
 bif (decide (List.length out4+List.length ((z52 ([]:List UInt8) (List.getD s12 (Int.toNat s14) (0:Int))).1)≤room)) then
 next (out4++((z52 ([]:List UInt8) (List.getD s12 (Int.toNat s14) (0:Int))).1)) s12 s13 (IntKind.wrap .i64 (s14+(1:Int)))
 else none
 else none
 else none
 else
 k0 out4
def qiv (k0:List UInt8→Option AV):Nat→List UInt8→List Int→Int→Int→Option AV
 | 0=>fun _ _ _ _=>none
 | n+1=>qdb k0 (qiv k0 n) n
def qdc (_n:Nat) (out4:List UInt8):Option AV :=
 qnP out4 (0:Int)
def qrq (n:Nat) (t0:List Int):Option AV :=
 bif ((qrW t0)&&true) then
 bif (!(z51 t0)) then
 qnP ([]:List UInt8) (7:Int)
 else
 qiv (qdc n) n ([]:List UInt8) t0 ((List.length t0:Nat):Int) (0:Int)
 else none
def qfs (s2:List UInt8) (s3:Int):Option AV:=some (.tup [(.dat (.sl .byte) s2 none),(.dat (.int .i64) s3 none)])
def qdd (ret:List UInt8→Int→Option AV) (k0:List UInt8→Option AV) (next:List UInt8→List Int→Int→Int→Option AV) (_n:Nat) (s4:List UInt8) (s9:List Int) (s10:Int) (s11:Int):Option AV :=
 bif (decide (s11 < s10)) then
 bif ((decide ((0:Int)≤s11))&&(decide (s11 < (List.length s9:Nat)))) then
 bif (!((z53 (List.getD s9 (Int.toNat s11) (0:Int))).2)) then
 ret ([]:List UInt8) (9:Int)
 else
 bif (decide (List.length s4+List.length ([((z53 (List.getD s9 (Int.toNat s11) (0:Int))).1)]:List UInt8)≤room)) then
 next (s4++([((z53 (List.getD s9 (Int.toNat s11) (0:Int))).1)]:List UInt8)) s9 s10 (IntKind.wrap .i64 (s11+(1:Int)))
 else none
 else none
 else
 k0 s4
def qiw (ret:List UInt8→Int→Option AV) (k0:List UInt8→Option AV):Nat→List UInt8→List Int→Int→Int→Option AV
 | 0=>fun _ _ _ _=>none
 | n+1=>qdd ret k0 (qiw ret k0 n) n
def qde (_n:Nat) (s4:List UInt8):Option AV :=
 qfs s4 (0:Int)
def qrr (n:Nat) (t0:List Int):Option AV :=
 qiw qfs (qde n) n ([]:List UInt8) t0 ((List.length t0:Nat):Int) (0:Int)
def qhw (s2:Int):Option AV:=some (.dat (.int .i64) s2 none)
def qdf (ret:Int→Option AV) (k0:Option AV) (next:List Int→Int→Int→Option AV) (_n:Nat) (s5:List Int) (s6:Int) (s7:Int):Option AV :=
 bif (decide (s7 < s6)) then
 bif ((decide ((0:Int)≤s7))&&(decide (s7 < (List.length s5:Nat)))) then
 bif (!(z64 (List.getD s5 (Int.toNat s7) (0:Int)))) then
 ret s7
 else
 next s5 s6 (IntKind.wrap .i64 (s7+(1:Int)))
 else none
 else
 k0
def qix (ret:Int→Option AV) (k0:Option AV):Nat→List Int→Int→Int→Option AV
 | 0=>fun _ _ _=>none
 | n+1=>qdf ret k0 (qix ret k0 n) n
def qeH (_n:Nat):Option AV :=
 qhw (-1:Int)
def qrs (n:Nat) (t0:List Int):Option AV :=
 qix qhw (qeH n) n t0 ((List.length t0:Nat):Int) (0:Int)
def qnQ (s2:List UInt8) (s3:Int):Option AV:=some (.tup [(.dat (.sl .byte) s2 none),(.dat (.int .i64) s3 none)])
def qdg (k0:List UInt8→Option AV) (next:List UInt8→List Int→Int→Int→Option AV) (_n:Nat) (s4:List UInt8) (s15:List Int) (s16:Int) (s17:Int):Option AV :=
 bif (decide (s17 < s16)) then
 bif ((decide ((0:Int)≤s17))&&(decide (s17 < (List.length s15:Nat)))) then
 bif (decide (List.length s4+List.length ([((z55 (List.getD s15 (Int.toNat s17) (0:Int))).1)]:List UInt8)≤room)) then
 next (s4++([((z55 (List.getD s15 (Int.toNat s17) (0:Int))).1)]:List UInt8)) s15 s16 (IntKind.wrap .i64 (s17+(1:Int)))
 else none
 else none
 else
 k0 s4
def qiy (k0:List UInt8→Option AV):Nat→List UInt8→List Int→Int→Int→Option AV
 | 0=>fun _ _ _ _=>none
 | n+1=>qdg k0 (qiy k0 n) n
def qdh (_n:Nat) (s4:List UInt8):Option AV :=
 qnQ s4 (0:Int)
def qrt (n:Nat) (t0:List Int):Option AV :=
 bif ((qrY t0)&&true) then
 bif (decide ((0:Int)≤(z54 t0))) then
 qnQ ([]:List UInt8) (9:Int)
 else
 bif (((decide ((0:Int)≤(0:Int)))&&(decide ((0:Int)≤((List.length t0:Nat):Int))))&&(decide (((List.length t0:Nat):Int)≤(room:Int)))) then
 qiy (qdh n) n (List.replicate (Int.toNat (0:Int)) (0:UInt8)) t0 ((List.length t0:Nat):Int) (0:Int)
 else none
 else none
def qhx (s2:Int):Option AV:=some (.dat (.int .i64) s2 none)
def qdi (ret:Int→Option AV) (k0:Option AV) (next:List Int→Int→Int→Option AV) (_n:Nat) (t0:List Int) (s5:Int) (s6:Int):Option AV :=
 bif (decide (s6 < s5)) then
 bif ((decide ((0:Int)≤s6))&&(decide (s6 < (List.length t0:Nat)))) then
 bif (!(z62 (List.getD t0 (Int.toNat s6) (0:Int)))) then
 ret s6
 else
 next t0 s5 (IntKind.wrap .i64 (s6+(1:Int)))
 else none
 else
 k0
def qiz (ret:Int→Option AV) (k0:Option AV):Nat→List Int→Int→Int→Option AV
 | 0=>fun _ _ _=>none
 | n+1=>qdi ret k0 (qiz ret k0 n) n
def qeI (_n:Nat):Option AV :=
 qhx (-1:Int)
def qru (n:Nat) (t0:List Int):Option AV :=
 qiz qhx (qeI n) n t0 ((List.length t0:Nat):Int) (0:Int)
def qnR (s2:List UInt8) (s3:Int):Option AV:=some (.tup [(.dat (.sl .byte) s2 none),(.dat (.int .i64) s3 none)])
def qdj (k0:List UInt8→Option AV) (next:List UInt8→List Int→Int→Int→Option AV) (_n:Nat) (s4:List UInt8) (s13:List Int) (s14:Int) (s15:Int):Option AV :=
 bif (decide (s15 < s14)) then
 bif ((decide ((0:Int)≤s15))&&(decide (s15 < (List.length s13:Nat)))) then
 bif ((decide ((0:Int)≤s15))&&(decide (s15 < (List.length s4:Nat)))) then
 next (List.set s4 (Int.toNat s15) (UInt8.ofNat (Int.toNat (IntKind.wrap .u8 (List.getD s13 (Int.toNat s15) (0:Int)))))) s13 s14 (IntKind.wrap .i64 (s15+(1:Int)))
 else none
 else none
 else
 k0 s4
def qgh (k0:List UInt8→Option AV):Nat→List UInt8→List Int→Int→Int→Option AV
 | 0=>fun _ _ _ _=>none
 | n+1=>qdj k0 (qgh k0 n) n
def qdk (_n:Nat) (s4:List UInt8):Option AV :=
 qnR s4 (0:Int)
def qrv (n:Nat) (t0:List Int):Option AV :=
 bif ((qrZ t0)&&true) then
 bif ((z56 t0) != (-1:Int)) then
 qnR ([]:List UInt8) (9:Int)
 else
 bif (((decide ((0:Int)≤((List.length t0:Nat):Int)))&&(decide (((List.length t0:Nat):Int)≤((List.length t0:Nat):Int))))&&(decide (((List.length t0:Nat):Int)≤(room:Int)))) then
 qgh (qdk n) n (List.replicate (Int.toNat ((List.length t0:Nat):Int)) (0:UInt8)) t0 ((List.length t0:Nat):Int) (0:Int)
 else none
 else none
def qeJ (s4:List UInt8) (s5:Int):Option AV:=some (.tup [(.dat (.sl .byte) s4 none),(.dat (.int .i64) s5 none)])
def quy (_n:Nat) (charset0:Int) (t1:List Int):Option AV :=
 bif ((z33 charset0)==(0:Int)) then
 qeJ ([]:List UInt8) (10:Int)
 else
 bif ((qsf charset0 t1)&&true) then
 bif (!(z34 charset0 t1)) then
 qeJ ([]:List UInt8) (9:Int)
 else
 bif (charset0==(5:Int)) then
 bif ((qsd t1)&&true) then
 qeJ ((z35 t1).1) ((z35 t1).2)
 else none
 else
 bif (charset0==(3:Int)) then
 bif ((qsb t1)&&true) then
 qeJ ((z36 t1).1) ((z36 t1).2)
 else none
 else
 bif (charset0==(4:Int)) then
 bif ((qsc t1)&&true) then
 qeJ ((z37 t1).1) ((z37 t1).2)
 else none
 else
 bif ((qsa t1)&&true) then
 qeJ ((z38 t1).1) ((z38 t1).2)
 else none
 else none
def qnS (s2:Int):Option AV:=some (.dat (.int .i64) s2 none)
def quz (_n:Nat) (n0:Int):Option AV :=
 bif (decide (n0 < (1:Int))) then
 qnS (0:Int)
 else
 qnS (IntKind.wrap .i64 ((IntKind.wrap .i64 ((IntKind.wrap .i64 (Int.tdiv (IntKind.wrap .i64 (n0 - (1:Int))) (3:Int)))*(4:Int)))+(4:Int)))
def qi (s2:Int):Option AV:=some (.dat (.int .i64) s2 none)
def quA (_n:Nat) (c0:UInt8):Option AV :=
 bif (decide (c0 < (32:UInt8))) then
 bif (c0==(32:UInt8)) then
 qi (bits .or .i64 (bits .or .i64 (0:Int) (1:Int)) (2:Int))
 else
 bif (c0==(9:UInt8)) then
 qi (bits .or .i64 (bits .or .i64 (0:Int) (1:Int)) (2:Int))
 else
 bif (decide ((48:UInt8)≤c0)) then
 bif (decide (c0≤(57:UInt8))) then
 qi (bits .or .i64 (bits .or .i64 (0:Int) (1:Int)) (648:Int))
 else
 bif (decide ((65:UInt8)≤c0)) then
 bif (decide (c0≤(90:UInt8))) then
 bif (decide (c0≤(90:UInt8))) then
 qi (bits .or .i64 (bits .or .i64 (0:Int) (1:Int)) (656:Int))
 else
 qi (bits .or .i64 (0:Int) (1:Int))
 else
 bif (decide ((97:UInt8)≤c0)) then
 bif (decide (c0≤(122:UInt8))) then
 qi (bits .or .i64 (bits .or .i64 (0:Int) (1:Int)) (656:Int))
 else
 qi (bits .or .i64 (0:Int) (1:Int))
 else
 qi (bits .or .i64 (0:Int) (1:Int))
 else
 bif (decide ((97:UInt8)≤c0)) then
 bif (decide (c0≤(122:UInt8))) then
 qi (bits .or .i64 (bits .or .i64 (0:Int) (1:Int)) (656:Int))
 else
 qi (bits .or .i64 (0:Int) (1:Int))
 else
 qi (bits .or .i64 (0:Int) (1:Int))
 else
 bif (decide ((65:UInt8)≤c0)) then
 bif (decide (c0≤(90:UInt8))) then
 bif (decide (c0≤(90:UInt8))) then
 qi (bits .or .i64 (bits .or .i64 (0:Int) (1:Int)) (656:Int))
 else
 qi (bits .or .i64 (0:Int) (1:Int))
 else
 bif (decide ((97:UInt8)≤c0)) then
 bif (decide (c0≤(122:UInt8))) then
 qi (bits .or .i64 (bits .or .i64 (0:Int) (1:Int)) (656:Int))
 else
 qi (bits .or .i64 (0:Int) (1:Int))
 else
 qi (bits .or .i64 (0:Int) (1:Int))
 else
 bif (decide ((97:UInt8)≤c0)) then
 bif (decide (c0≤(122:UInt8))) then
 qi (bits .or .i64 (bits .or .i64 (0:Int) (1:Int)) (656:Int))
 else
 qi (bits .or .i64 (0:Int) (1:Int))
 else
 qi (bits .or .i64 (0:Int) (1:Int))
 else
 bif (c0==(127:UInt8)) then
 bif (c0==(32:UInt8)) then
 qi (bits .or .i64 (bits .or .i64 (0:Int) (1:Int)) (2:Int))
 else
 bif (c0==(9:UInt8)) then
 qi (bits .or .i64 (bits .or .i64 (0:Int) (1:Int)) (2:Int))
 else
 bif (decide ((48:UInt8)≤c0)) then
 bif (decide (c0≤(57:UInt8))) then
 qi (bits .or .i64 (bits .or .i64 (0:Int) (1:Int)) (648:Int))
 else
 bif (decide ((65:UInt8)≤c0)) then
 bif (decide (c0≤(90:UInt8))) then
 bif (decide (c0≤(90:UInt8))) then
 qi (bits .or .i64 (bits .or .i64 (0:Int) (1:Int)) (656:Int))
 else
 qi (bits .or .i64 (0:Int) (1:Int))
 else
 bif (decide ((97:UInt8)≤c0)) then
 bif (decide (c0≤(122:UInt8))) then
 qi (bits .or .i64 (bits .or .i64 (0:Int) (1:Int)) (656:Int))
 else
 qi (bits .or .i64 (0:Int) (1:Int))
 else
 qi (bits .or .i64 (0:Int) (1:Int))
 else
 bif (decide ((97:UInt8)≤c0)) then
 bif (decide (c0≤(122:UInt8))) then
 qi (bits .or .i64 (bits .or .i64 (0:Int) (1:Int)) (656:Int))
 else
 qi (bits .or .i64 (0:Int) (1:Int))
 else
 qi (bits .or .i64 (0:Int) (1:Int))
 else
 bif (decide ((65:UInt8)≤c0)) then
 bif (decide (c0≤(90:UInt8))) then
 bif (decide (c0≤(90:UInt8))) then
 qi (bits .or .i64 (bits .or .i64 (0:Int) (1:Int)) (656:Int))
 else
 qi (bits .or .i64 (0:Int) (1:Int))
 else
 bif (decide ((97:UInt8)≤c0)) then
 bif (decide (c0≤(122:UInt8))) then
 qi (bits .or .i64 (bits .or .i64 (0:Int) (1:Int)) (656:Int))
 else
 qi (bits .or .i64 (0:Int) (1:Int))
 else
 qi (bits .or .i64 (0:Int) (1:Int))
 else
 bif (decide ((97:UInt8)≤c0)) then
 bif (decide (c0≤(122:UInt8))) then
 qi (bits .or .i64 (bits .or .i64 (0:Int) (1:Int)) (656:Int))
 else
 qi (bits .or .i64 (0:Int) (1:Int))
 else
 qi (bits .or .i64 (0:Int) (1:Int))
 else
 bif (c0==(32:UInt8)) then
 qi (bits .or .i64 (0:Int) (2:Int))
 else
 bif (c0==(9:UInt8)) then
 qi (bits .or .i64 (0:Int) (2:Int))
 else
 bif (decide ((48:UInt8)≤c0)) then
 bif (decide (c0≤(57:UInt8))) then
 qi (bits .or .i64 (0:Int) (648:Int))
 else
 bif (decide ((65:UInt8)≤c0)) then
 bif (decide (c0≤(90:UInt8))) then
 bif (decide (c0≤(90:UInt8))) then
 qi (bits .or .i64 (0:Int) (656:Int))
 else
 qi (0:Int)
 else
 bif (decide ((97:UInt8)≤c0)) then
 bif (decide (c0≤(122:UInt8))) then
 qi (bits .or .i64 (0:Int) (656:Int))
 else
 qi (0:Int)
 else
 qi (0:Int)
 else
 bif (decide ((97:UInt8)≤c0)) then
 bif (decide (c0≤(122:UInt8))) then
 qi (bits .or .i64 (0:Int) (656:Int))
 else
 qi (0:Int)
 else
 qi (0:Int)
 else
 bif (decide ((65:UInt8)≤c0)) then
 bif (decide (c0≤(90:UInt8))) then
 bif (decide (c0≤(90:UInt8))) then
 qi (bits .or .i64 (0:Int) (656:Int))
 else
 qi (0:Int)
 else
 bif (decide ((97:UInt8)≤c0)) then
 bif (decide (c0≤(122:UInt8))) then
 qi (bits .or .i64 (0:Int) (656:Int))
 else
 qi (0:Int)
 else
 qi (0:Int)
 else
 bif (decide ((97:UInt8)≤c0)) then
 bif (decide (c0≤(122:UInt8))) then
 qi (bits .or .i64 (0:Int) (656:Int))
 else
 qi (0:Int)
 else
 qi (0:Int)
def qsA (s4:Int):Option AV:=some (.dat (.int .i64) s4 none)
def qxw (_n:Nat) (s0:List UInt8) (c1:UInt8):Option AV :=
 qsA (z90 s0 c1)
def qsB (s4:Int):Option AV:=some (.dat (.int .i64) s4 none)
def qxx (_n:Nat) (s0:List UInt8) (c1:UInt8):Option AV :=
 qsB (z89 s0 c1)
def qsC (s4:Bool):Option AV:=some (.dat .bool s4 none)
def qxy (_n:Nat) (s0:List UInt8) (c1:UInt8):Option AV :=
 qsC (decide ((0:Int)≤(z88 s0 c1)))
def qaE (s2:Int):Option AV:=some (.dat (.int .i64) s2 none)
def quB (_n:Nat) (c0:UInt8):Option AV :=
 bif (decide (c0 < (33:UInt8))) then
 qaE (z86 c0)
 else
 bif (decide ((126:UInt8) < c0)) then
 qaE (z86 c0)
 else
 bif (z87 ([33,42,43,45,47]:List UInt8) c0) then
 bif (z87 ([43,47]:List UInt8) c0) then
 bif (z87 ([40,41,60,62,64,44,59,58,92,34,47,91,93,63,61]:List UInt8) c0) then
 qaE (bits .or .i64 (bits .or .i64 (bits .or .i64 (bits .or .i64 (z86 c0) (4:Int)) (128:Int)) (512:Int)) (32:Int))
 else
 bif (!(z87 ([42,39,37]:List UInt8) c0)) then
 qaE (bits .or .i64 (bits .or .i64 (bits .or .i64 (bits .or .i64 (bits .or .i64 (z86 c0) (4:Int)) (128:Int)) (512:Int)) (64:Int)) (256:Int))
 else
 qaE (bits .or .i64 (bits .or .i64 (bits .or .i64 (bits .or .i64 (z86 c0) (4:Int)) (128:Int)) (512:Int)) (64:Int))
 else
 bif (z87 ([40,41,60,62,64,44,59,58,92,34,47,91,93,63,61]:List UInt8) c0) then
 qaE (bits .or .i64 (bits .or .i64 (bits .or .i64 (z86 c0) (4:Int)) (128:Int)) (32:Int))
 else
 bif (!(z87 ([42,39,37]:List UInt8) c0)) then
 qaE (bits .or .i64 (bits .or .i64 (bits .or .i64 (bits .or .i64 (z86 c0) (4:Int)) (128:Int)) (64:Int)) (256:Int))
 else
 qaE (bits .or .i64 (bits .or .i64 (bits .or .i64 (z86 c0) (4:Int)) (128:Int)) (64:Int))
 else
 bif (z87 ([43,47]:List UInt8) c0) then
 bif (z87 ([40,41,60,62,64,44,59,58,92,34,47,91,93,63,61]:List UInt8) c0) then
 qaE (bits .or .i64 (bits .or .i64 (bits .or .i64 (z86 c0) (4:Int)) (512:Int)) (32:Int))
 else
 bif (!(z87 ([42,39,37]:List UInt8) c0)) then
 qaE (bits .or .i64 (bits .or .i64 (bits .or .i64 (bits .or .i64 (z86 c0) (4:Int)) (512:Int)) (64:Int)) (256:Int))
 else
 qaE (bits .or .i64 (bits .or .i64 (bits .or .i64 (z86 c0) (4:Int)) (512:Int)) (64:Int))
 else
 bif (z87 ([40,41,60,62,64,44,59,58,92,34,47,91,93,63,61]:List UInt8) c0) then
 qaE (bits .or .i64 (bits .or .i64 (z86 c0) (4:Int)) (32:Int))
 else
 bif (!(z87 ([42,39,37]:List UInt8) c0)) then
 qaE (bits .or .i64 (bits .or .i64 (bits .or .i64 (z86 c0) (4:Int)) (64:Int)) (256:Int))
 else
 qaE (bits .or .i64 (bits .or .i64 (z86 c0) (4:Int)) (64:Int))
def qsD (s4:Bool):Option AV:=some (.dat .bool s4 none)
def qxz (_n:Nat) (c0:UInt8) (kinds1:Int):Option AV :=
 qsD ((bits .and .i64 (z82 c0) kinds1) != (0:Int))
def qkk (s2:Int):Option AV:=some (.dat (.int .i64) s2 none)
def quC (_n:Nat) (c0:UInt8):Option AV :=
 bif (c0==(32:UInt8)) then
 qkk (1:Int)
 else
 bif (z75 c0 (128:Int)) then
 qkk (1:Int)
 else
 qkk (3:Int)
def qsE (s2:Int):Option AV:=some (.dat (.int .i64) s2 none)
def qdl (k0:Int→Option AV) (next:Int→List UInt8→Int→Int→Option AV) (_n:Nat) (n3:Int) (s6:List UInt8) (s7:Int) (s8:Int):Option AV :=
 bif (decide (s8 < s7)) then
 bif ((decide ((0:Int)≤s8))&&(decide (s8 < (List.length s6:Nat)))) then
 next (IntKind.wrap .i64 (n3+(z57 (List.getD s6 (Int.toNat s8) (0:UInt8))))) s6 s7 (IntKind.wrap .i64 (s8+(1:Int)))
 else none
 else
 k0 n3
def qiA (k0:Int→Option AV):Nat→Int→List UInt8→Int→Int→Option AV
 | 0=>fun _ _ _ _=>none
 | n+1=>qdl k0 (qiA k0 n) n
def qeK (_n:Nat) (n3:Int):Option AV :=
 qsE n3
def qrw (n:Nat) (s0:List UInt8):Option AV :=
 qiA (qeK n) n (0:Int) s0 ((List.length s0:Nat):Int) (0:Int)
def qhy (s4:Int) (s5:Bool):Option AV:=some (.tup [(.dat (.int .i64) s4 none),(.dat .bool s5 none)])
def qkl (_n:Nat) (s1:List UInt8):Option AV :=
 qhy (z42 ((List.length s1:Nat):Int)) true
def qhz (s4:Int) (s5:Bool):Option AV:=some (.tup [(.dat (.int .i64) s4 none),(.dat .bool s5 none)])
def qgi (_n:Nat) (s1:List UInt8):Option AV :=
 bif ((qfe s1)&&true) then
 qhz (z43 s1) true
 else none
def qhA (s4:Int) (s5:Bool):Option AV:=some (.tup [(.dat (.int .i64) s4 none),(.dat .bool s5 none)])
def qkm (_n:Nat) (_s1:List UInt8):Option AV :=
 qhA (0:Int) false
def qsF (s2:Int):Option AV:=some (.dat (.int .i64) s2 none)
def qxA (_n:Nat) (_x0:Unit):Option AV :=
 qsF (1:Int)
def qsG (s2:Int):Option AV:=some (.dat (.int .i64) s2 none)
def qxB (_n:Nat) (_x0:Unit):Option AV :=
 qsG (2:Int)
def qxC (_n:Nat) (code0:Int):Option AV :=
 bif (code0==(z44 ())) then
 some (.iface 71 (.dat .unit () none))
 else
 bif (code0==(z45 ())) then
 some (.iface 72 (.dat .unit () none))
 else
 some .nilIface
def qbz (s6:Int) (s7:Int):Option AV:=some (.tup [(.dat (.int .i64) s6 none),(.dat (.int .i64) s7 none)])
def quD (_n:Nat) (charset0:Int) (code1:Int) (t2:List Int):Option AV :=
 bif ((qlK charset0 t2)&&true) then
 bif (((z23 charset0 t2).2)==(10:Int)) then
 qbz (0:Int) ((z23 charset0 t2).2)
 else
 bif (code1==(1:Int)) then
 bif ((qho ((z23 charset0 t2).1))&&true) then
 bif (!true) then
 qbz (0:Int) (3:Int)
 else
 bif (((z23 charset0 t2).2) != (0:Int)) then
 qbz (0:Int) ((z23 charset0 t2).2)
 else
 qbz (z42 ((List.length ((z23 charset0 t2).1):Nat):Int)) (0:Int)
 else none
 else
 bif (code1==(2:Int)) then
 bif ((qho ((z23 charset0 t2).1))&&true) then
 bif (!true) then
 qbz (0:Int) (3:Int)
 else
 bif (((z23 charset0 t2).2) != (0:Int)) then
 qbz (0:Int) ((z23 charset0 t2).2)
 else
 qbz (z43 ((z23 charset0 t2).1)) (0:Int)
 else none
 else
 bif (!false) then
 qbz (0:Int) (3:Int)
 else
 bif (((z23 charset0 t2).2) != (0:Int)) then
 qbz (0:Int) ((z23 charset0 t2).2)
 else
 qbz (0:Int) (0:Int)
 else none
def qnT (s2:Bool):Option AV:=some (.dat .bool s2 none)
def quE (_n:Nat) (n0:Int):Option AV :=
 bif (decide ((1:Int)≤n0)) then
 qnT (decide (n0≤(5:Int)))
 else
 qnT false
def qkn (s2:List UInt8):Option AV:=some (.dat .str s2 none)
def quF (_n:Nat) (n0:Int):Option AV :=
 bif (n0==(1:Int)) then
 qkn ([66]:List UInt8)
 else
 bif (n0==(2:Int)) then
 qkn ([81]:List UInt8)
 else
 qkn ([]:List UInt8)
def qeL (s2:List (List UInt8)):Option AV:=some (.dat (.sl .str) s2 (some (2,9)))
def quG (_n:Nat) (charset0:Int):Option AV :=
 bif (charset0==(1:Int)) then
 qeL ([([117,115,45,97,115,99,105,105]:List UInt8),([97,115,99,105,105]:List UInt8),([97,110,115,105,95,120,51,46,52,45,49,57,54,56]:List UInt8),([105,115,111,54,52,54,45,117,115]:List UInt8)]:List (List UInt8))
 else
 bif (charset0==(2:Int)) then
 qeL ([([105,115,111,45,56,56,53,57,45,49]:List UInt8),([105,115,111,95,56,56,53,57,45,49]:List UInt8),([108,97,116,105,110,49]:List UInt8),([108,49]:List UInt8)]:List (List UInt8))
 else
 bif (charset0==(3:Int)) then
 qeL ([([105,115,111,45,56,56,53,57,45,49,53]:List UInt8),([105,115,111,95,56,56,53,57,45,49,53]:List UInt8),([108,97,116,105,110,45,57]:List UInt8)]:List (List UInt8))
 else
 bif (charset0==(4:Int)) then
 qeL ([([119,105,110,100,111,119,115,45,49,50,53,50]:List UInt8),([99,112,49,50,53,50]:List UInt8)]:List (List UInt8))
 else
 bif (charset0==(5:Int)) then
 qeL ([([117,116,102,45,56]:List UInt8),([117,116,102,56]:List UInt8)]:List (List UInt8))
 else
 qeL ([]:List (List UInt8))
def qnU (s2:List UInt8):Option AV:=some (.dat .str s2 none)
def quH (_n:Nat) (charset0:Int):Option AV :=
 bif (((List.length (z61 charset0):Nat):Int)==(0:Int)) then
 qnU ([]:List UInt8)
 else
 bif ((decide ((0:Int)≤(0:Int)))&&(decide ((0:Int) < (List.length (z61 charset0):Nat)))) then
 qnU (List.getD (z61 charset0) (Int.toNat (0:Int)) ([]:List UInt8))
 else none
def qsH (s4:List UInt8):Option AV:=some (.dat .str s4 none)
def quI (_n:Nat) (charset0:Int) (code1:Int):Option AV :=
 bif (decide (List.length ([61,63]:List UInt8)+List.length (z46 charset0)≤9223372036854775807)) then
 bif (decide (List.length (([61,63]:List UInt8)++(z46 charset0))+List.length ([63]:List UInt8)≤9223372036854775807)) then
 bif (decide (List.length ((([61,63]:List UInt8)++(z46 charset0))++([63]:List UInt8))+List.length (z39 code1)≤9223372036854775807)) then
 bif (decide (List.length (((([61,63]:List UInt8)++(z46 charset0))++([63]:List UInt8))++(z39 code1))+List.length ([63]:List UInt8)≤9223372036854775807)) then
 qsH ((((([61,63]:List UInt8)++(z46 charset0))++([63]:List UInt8))++(z39 code1))++([63]:List UInt8))
 else none
 else none
 else none
 else none
def qhB (s2:Int):Option AV:=some (.dat (.int .i64) s2 none)
def quJ (_n:Nat) (charset0:Int):Option AV :=
 bif (!(z27 charset0)) then
 qhB (0:Int)
 else
 qhB (IntKind.wrap .i64 ((IntKind.wrap .i64 (((List.length (z28 charset0 (2:Int)):Nat):Int)+(1:Int)))+(1:Int)))
def qnV (s6:Int) (s7:Int):Option AV:=some (.tup [(.dat (.int .i64) s6 none),(.dat (.int .i64) s7 none)])
def quK (_n:Nat) (charset0:Int) (code1:Int) (t2:List Int):Option AV :=
 bif ((qhp charset0 code1 t2)&&true) then
 bif (((z16 charset0 code1 t2).2) != (0:Int)) then
 qnV (0:Int) ((z16 charset0 code1 t2).2)
 else
 qnV (IntKind.wrap .i64 (((z16 charset0 code1 t2).1)+(z17 charset0))) (0:Int)
 else none
def qko (s8:Bool):Option AV:=some (.dat .bool s8 none)
def quL (_n:Nat) (charset0:Int) (code1:Int) (t2:List Int) (room3:Int):Option AV :=
 bif ((qlv charset0 code1 t2)&&true) then
 bif (((z10 charset0 code1 t2).2)==(0:Int)) then
 bif (decide ((0:Int) < ((List.length t2:Nat):Int))) then
 qko (decide (((z10 charset0 code1 t2).1)≤(bif (decide ((75:Int) < room3)) then (75:Int) else room3)))
 else
 qko false
 else
 qko false
 else none
def qsI (s8:Int):Option AV:=some (.dat (.int .i64) s8 none)
def qdm (k0:Int→Option AV) (next:Int→Int→List Int→Int→Int→Option AV) (_n:Nat) (charset0:Int) (code1:Int) (t2:List Int) (room3:Int) (many9:Int):Option AV :=
 bif (decide (many9 < ((List.length t2:Nat):Int))) then
 bif (((decide ((0:Int)≤((0:Nat):Int)))&&(decide (((0:Nat):Int)≤(IntKind.wrap .i64 (many9+(1:Int))))))&&(decide ((IntKind.wrap .i64 (many9+(1:Int)))≤((List.length t2:Nat):Int)))) then
 bif ((qra charset0 code1 (List.drop (Int.toNat ((0:Nat):Int)) (List.take (Int.toNat (IntKind.wrap .i64 (many9+(1:Int)))) t2)) room3)&&true) then
 bif (z29 charset0 code1 (List.drop (Int.toNat ((0:Nat):Int)) (List.take (Int.toNat (IntKind.wrap .i64 (many9+(1:Int)))) t2)) room3) then
 next charset0 code1 t2 room3 (IntKind.wrap .i64 (many9+(1:Int)))
 else
 k0 many9
 else none
 else none
 else
 k0 many9
def qiB (k0:Int→Option AV):Nat→Int→Int→List Int→Int→Int→Option AV
 | 0=>fun _ _ _ _ _=>none
 | n+1=>qdm k0 (qiB k0 n) n
def qeM (_n:Nat) (many9:Int):Option AV :=
 qsI many9
def qrx (n:Nat) (charset0:Int) (code1:Int) (t2:List Int) (room3:Int):Option AV :=
 qiB (qeM n) n charset0 code1 t2 room3 (0:Int)
def qft (V:Sigma Inv) (xv:Den V.1) (s29:List Int) (s30:Int) (s31:Int) (s32:Int):Option AV:=some (.tup [(.tup []),(.abs V.1 V.2 xv),(.pbox (.leaf (.sl (.int .i32))) s29 none),(.pbox (.leaf (.int .i64)) s30 none),(.pbox (.leaf (.int .i64)) s31 none),(.pbox (.leaf (.int .i64)) s32 none)])
def qgj (V:Sigma Inv) (ret:Den V.1→List Int→Int→Int→Int→Option AV) (k0:Den V.1→List Int→Int→Int→Int→Option AV) (next:Den V.1→List Int→Int→Int→Int→Option AV) (_n:Nat) (xv:Den V.1) (s29:List Int) (s30:Int) (s31:Int) (s32:Int):Option AV :=
 bif (decide ((0:Int) < ((List.length s29:Nat):Int))) then
 bif ((qrb s30 s31 s29 s32)&&true) then
 bif (((decide ((0:Int)≤((0:Nat):Int)))&&(decide (((0:Nat):Int)≤(z19 s30 s31 s29 s32))))&&(decide ((z19 s30 s31 s29 s32)≤((List.length s29:Nat):Int)))) then
 bif (V.2.spec xv [⟨(.sl (.int .i32)),(List.drop (Int.toNat ((0:Nat):Int)) (List.take (Int.toNat (z19 s30 s31 s29 s32)) s29))⟩]).1 then
 bif (!(V.2.spec xv [⟨(.sl (.int .i32)),(List.drop (Int.toNat ((0:Nat):Int)) (List.take (Int.toNat (z19 s30 s31 s29 s32)) s29))⟩]).2.1) then
 ret (V.2.spec xv [⟨(.sl (.int .i32)),(List.drop (Int.toNat ((0:Nat):Int)) (List.take (Int.toNat (z19 s30 s31 s29 s32)) s29))⟩]).2.2 s29 s30 s31 s32
 else
 bif ((z19 s30 s31 s29 s32)==(0:Int)) then
 ret (V.2.spec xv [⟨(.sl (.int .i32)),(List.drop (Int.toNat ((0:Nat):Int)) (List.take (Int.toNat (z19 s30 s31 s29 s32)) s29))⟩]).2.2 s29 s30 s31 s32
 else
 bif (((decide ((0:Int)≤(z19 s30 s31 s29 s32)))&&(decide ((z19 s30 s31 s29 s32)≤((List.length s29:Nat):Int))))&&(decide (((List.length s29:Nat):Int)≤((List.length s29:Nat):Int)))) then
 next (V.2.spec xv [⟨(.sl (.int .i32)),(List.drop (Int.toNat ((0:Nat):Int)) (List.take (Int.toNat (z19 s30 s31 s29 s32)) s29))⟩]).2.2 (List.drop (Int.toNat (z19 s30 s31 s29 s32)) (List.take (Int.toNat ((List.length s29:Nat):Int)) s29)) s30 s31 (75:Int)
 else none
 else none
 else none
 else none
 else
 k0 xv s29 s30 s31 s32
def qiC (V:Sigma Inv) (ret:Den V.1→List Int→Int→Int→Int→Option AV) (k0:Den V.1→List Int→Int→Int→Int→Option AV):Nat→Den V.1→List Int→Int→Int→Int→Option AV
 | 0=>fun _ _ _ _ _=>none
 | n+1=>(qgj V) ret k0 ((qiC V) ret k0 n) n
def qeN (V:Sigma Inv) (_n:Nat) (xv:Den V.1) (s29:List Int) (s30:Int) (s31:Int) (s32:Int):Option AV :=
 (qft V) xv s29 s30 s31 s32
def quM (V:Sigma Inv) (n:Nat) (x0:Den V.1) (x1:List Int) (x2:Int) (x3:Int) (x4:Int):Option AV :=
 (qiC V) (qft V) ((qeN V) n) n x0 x1 x2 x3 x4
def qry (s8:List (List Int)) (s9:Int):Option AV:=some (.tup [(.dat (.sl (.sl (.int .i32))) s8 none),(.dat (.int .i64) s9 none)])
def z5_r7 (n:Nat) (x:Bool×(List (List Int))×Int×(List (List Int))×Unit) (y0:List Int):Bool×Bool×(Bool×(List (List Int))×Int×(List (List Int))×Unit) :=
 bif x.1 then (false,false,x) else yfin (.pair (.sl (.sl (.int .i32))) (.pair (.int .i64) (.pair (.sl (.sl (.int .i32))) .unit))) x (
 bif (((List.length y0:Nat):Int)==(0:Int)) then
 some (.dat (.pair .bool (.pair (.sl (.sl (.int .i32))) (.pair (.int .i64) (.pair (.sl (.sl (.int .i32))) .unit)))) (true,(([]:List (List Int)),((12:Int),(x.2.2.2.1,())))) none)
 else
 bif ((qtZ y0)&&true) then
 bif (decide (List.length x.2.2.2.1+List.length ([(z12 y0)]:List (List Int))≤room)) then
 some (.dat (.pair .bool (.pair (.sl (.sl (.int .i32))) (.pair (.int .i64) (.pair (.sl (.sl (.int .i32))) .unit)))) (false,(x.2.1,(x.2.2.1,((x.2.2.2.1++([(z12 y0)]:List (List Int))),())))) none)
 else none
 else none)
def z5_sh (n:Nat) (charset0:Int) (code1:Int) (t2:List Int) (first3:Int):Option AV :=
 bif ((qlv charset0 code1 t2)&&true) then
 bif (((z10 charset0 code1 t2).2) != (0:Int)) then
 qry ([]:List (List Int)) ((z10 charset0 code1 t2).2)
 else
 bif (z18 (z5_r7 n) (false,(([]:List (List Int)),((0:Int),(([]:List (List Int)),())))) t2 charset0 code1 first3).1 then
 bif (z18 (z5_r7 n) (false,(([]:List (List Int)),((0:Int),(([]:List (List Int)),())))) t2 charset0 code1 first3).2.1.1 then
 qry (z18 (z5_r7 n) (false,(([]:List (List Int)),((0:Int),(([]:List (List Int)),())))) t2 charset0 code1 first3).2.1.2.1 (z18 (z5_r7 n) (false,(([]:List (List Int)),((0:Int),(([]:List (List Int)),())))) t2 charset0 code1 first3).2.1.2.2.1
 else
 qry (z18 (z5_r7 n) (false,(([]:List (List Int)),((0:Int),(([]:List (List Int)),())))) t2 charset0 code1 first3).2.1.2.2.2.1 (0:Int)
 else none
 else none
def qnW (s2:Int):Option AV:=some (.dat (.int .i64) s2 none)
def qdn (k0:Int→Option AV) (next:Int→Int→Int→Option AV) (_n:Nat) (c0:Int) (s3:Int) (s5:Int):Option AV :=
 bif (decide (s5 < (5:Int))) then
 bif (z47 (IntKind.wrap .i64 (s5+(1:Int))) c0) then
 bif (decide ((0:Int)≤(IntKind.wrap .i64 (s5+(1:Int))))) then
 next c0 (bits .or .i64 s3 (IntKind.wrap .i64 ((1:Int)*2 ^ (min (Int.toNat (IntKind.wrap .i64 (s5+(1:Int)))) (IntKind.bits .i64))))) (IntKind.wrap .i64 (s5+(1:Int)))
 else none
 else
 next c0 s3 (IntKind.wrap .i64 (s5+(1:Int)))
 else
 k0 s3
def qgk (k0:Int→Option AV):Nat→Int→Int→Int→Option AV
 | 0=>fun _ _ _=>none
 | n+1=>qdn k0 (qgk k0 n) n
def qca (_n:Nat) (s3:Int):Option AV :=
 qnW s3
def qrz (n:Nat) (c0:Int):Option AV :=
 qgk (qca n) n c0 (0:Int) (0:Int)
def qsJ (s2:Int):Option AV:=some (.dat (.int .i64) s2 none)
def quN (_n:Nat) (x0:Int):Option AV :=
 bif ((qtW x0)&&true) then
 qsJ (z67 x0)
 else none
def qnX (s2:Int):Option AV:=some (.dat (.int .i64) s2 none)
def quO (_n:Nat) (sets0:Int):Option AV :=
 bif (sets0==(0:Int)) then
 qnX (0:Int)
 else
 bif ((qrc (IntKind.wrap .u64 sets0))&&true) then
 qnX (z48 (IntKind.wrap .u64 sets0))
 else none
def qnY (s2:Int) (s3:Int):Option AV:=some (.tup [(.dat (.int .i64) s2 none),(.dat (.int .i64) s3 none)])
def qdo (k0:Int→Option AV) (next:Int→List Int→Int→Int→Option AV) (_n:Nat) (all4:Int) (s7:List Int) (s8:Int) (s9:Int):Option AV :=
 bif (decide (s9 < s8)) then
 bif ((decide ((0:Int)≤s9))&&(decide (s9 < (List.length s7:Nat)))) then
 next (bits .and .i64 all4 (z30 (List.getD s7 (Int.toNat s9) (0:Int)))) s7 s8 (IntKind.wrap .i64 (s9+(1:Int)))
 else none
 else
 k0 all4
def qiD (k0:Int→Option AV):Nat→Int→List Int→Int→Int→Option AV
 | 0=>fun _ _ _ _=>none
 | n+1=>qdo k0 (qiD k0 n) n
def qcb (_n:Nat) (all4:Int):Option AV :=
 bif (all4==(0:Int)) then
 qnY (0:Int) (7:Int)
 else
 bif ((qrd all4)&&true) then
 qnY (z31 all4) (0:Int)
 else none
def qrA (n:Nat) (t0:List Int):Option AV :=
 qiD (qcb n) n (62:Int) t0 ((List.length t0:Nat):Int) (0:Int)
def qsK (s6:Int):Option AV:=some (.dat (.int .i64) s6 none)
def quP (_n:Nat) (charset0:Int) (code1:Int) (t2:List Int):Option AV :=
 bif ((qhp charset0 code1 t2)&&true) then
 qsK ((z16 charset0 code1 t2).1)
 else none
def qsL (s4:Int):Option AV:=some (.dat (.int .i64) s4 none)
def quQ (_n:Nat) (charset0:Int) (t1:List Int):Option AV :=
 bif ((qlw charset0 (1:Int) t1)&&true) then
 bif ((qlw charset0 (2:Int) t1)&&true) then
 qsL (IntKind.wrap .i64 ((z49 charset0 (1:Int) t1) - (z49 charset0 (2:Int) t1)))
 else none
 else none
def qkp (s4:Int) (s5:Int):Option AV:=some (.tup [(.dat (.int .i64) s4 none),(.dat (.int .i64) s5 none)])
def quR (_n:Nat) (charset0:Int) (t1:List Int):Option AV :=
 bif ((qhp charset0 (1:Int) t1)&&true) then
 bif (((z16 charset0 (1:Int) t1).2) != (0:Int)) then
 qkp (0:Int) ((z16 charset0 (1:Int) t1).2)
 else
 bif ((qqY charset0 t1)&&true) then
 bif (decide ((0:Int)≤(z32 charset0 t1))) then
 qkp (2:Int) (0:Int)
 else
 qkp (1:Int) (0:Int)
 else none
 else none
def qnZ (s2:Int) (s3:Int) (s4:Int):Option AV:=some (.tup [(.dat (.int .i64) s2 none),(.dat (.int .i64) s3 none),(.dat (.int .i64) s4 none)])
def quS (_n:Nat) (t0:List Int):Option AV :=
 bif ((qre t0)&&true) then
 bif (((z21 t0).2) != (0:Int)) then
 qnZ (0:Int) (0:Int) ((z21 t0).2)
 else
 bif ((qqZ ((z21 t0).1) t0)&&true) then
 qnZ ((z21 t0).1) ((z22 ((z21 t0).1) t0).1) ((z22 ((z21 t0).1) t0).2)
 else none
 else none
def qsM (s2:UInt8):Option AV:=some (.dat .byte s2 none)
def quT (_n:Nat) (n0:Int):Option AV :=
 bif ((decide ((0:Int)≤(bits .and .i64 n0 (15:Int))))&&(decide ((bits .and .i64 n0 (15:Int)) < (List.length ([48,49,50,51,52,53,54,55,56,57,65,66,67,68,69,70]:List UInt8):Nat)))) then
 qsM (List.getD ([48,49,50,51,52,53,54,55,56,57,65,66,67,68,69,70]:List UInt8) (Int.toNat (bits .and .i64 n0 (15:Int))) (0:UInt8))
 else none
def qsN (s2:List UInt8):Option AV:=some (.dat (.sl .byte) s2 (some (2,5)))
def quU (_n:Nat) (c0:UInt8):Option AV :=
 bif ((qfd (IntKind.wrap .i64 ((UInt8.toNat (UInt8.ofNat (UInt8.toNat c0 / 2 ^ (min (Int.toNat (4:Int)) 8))):Nat):Int)))&&true) then
 bif ((qfd (IntKind.wrap .i64 ((UInt8.toNat c0:Nat):Int)))&&true) then
 qsN ([(z83 (IntKind.wrap .i64 ((UInt8.toNat (UInt8.ofNat (UInt8.toNat c0 / 2 ^ (min (Int.toNat (4:Int)) 8))):Nat):Int))),(z83 (IntKind.wrap .i64 ((UInt8.toNat c0:Nat):Int)))]:List UInt8)
 else none
 else none
def qsO (s6:List UInt8):Option AV:=some (.dat (.sl .byte) s6 (some (6,5)))
def quV (_n:Nat) (b0:List UInt8) (sign1:UInt8) (c2:UInt8):Option AV :=
 bif ((qoB b0)&&true) then
 bif (decide (List.length (z70 b0)+List.length ([sign1]:List UInt8)≤room)) then
 bif (decide (List.length ((z70 b0)++([sign1]:List UInt8))+List.length (z76 c2)≤room)) then
 qsO (((z70 b0)++([sign1]:List UInt8))++(z76 c2))
 else none
 else none
 else none
def qhC (s2:List UInt8):Option AV:=some (.dat (.sl .byte) s2 (some (2,5)))
def qdp (k0:List UInt8→Option AV) (next:List UInt8→List UInt8→Int→Int→Option AV) (_n:Nat) (out3:List UInt8) (s9:List UInt8) (s10:Int) (s11:Int):Option AV :=
 bif (decide (s11 < s10)) then
 bif ((decide ((0:Int)≤s11))&&(decide (s11 < (List.length s9:Nat)))) then
 bif ((List.getD s9 (Int.toNat s11) (0:UInt8))==(32:UInt8)) then
 bif (decide (List.length out3+List.length ([(95:UInt8)]:List UInt8)≤room)) then
 next (out3++([(95:UInt8)]:List UInt8)) s9 s10 (IntKind.wrap .i64 (s11+(1:Int)))
 else none
 else
 bif ((z57 (List.getD s9 (Int.toNat s11) (0:UInt8)))==(1:Int)) then
 bif (decide (List.length out3+List.length ([(List.getD s9 (Int.toNat s11) (0:UInt8))]:List UInt8)≤room)) then
 next (out3++([(List.getD s9 (Int.toNat s11) (0:UInt8))]:List UInt8)) s9 s10 (IntKind.wrap .i64 (s11+(1:Int)))
 else none
 else
 bif ((qrT out3 (61:UInt8) (List.getD s9 (Int.toNat s11) (0:UInt8)))&&true) then
 next (z58 out3 (61:UInt8) (List.getD s9 (Int.toNat s11) (0:UInt8))) s9 s10 (IntKind.wrap .i64 (s11+(1:Int)))
 else none
 else none
 else
 k0 out3
def qiE (k0:List UInt8→Option AV):Nat→List UInt8→List UInt8→Int→Int→Option AV
 | 0=>fun _ _ _ _=>none
 | n+1=>qdp k0 (qiE k0 n) n
def qeO (_n:Nat) (out3:List UInt8):Option AV :=
 qhC out3
def qrB (n:Nat) (s0:List UInt8):Option AV :=
 bif ((qfe s0)&&true) then
 bif (((decide ((0:Int)≤(0:Int)))&&(decide ((0:Int)≤(z43 s0))))&&(decide ((z43 s0)≤(room:Int)))) then
 qiE (qeO n) n (List.replicate (Int.toNat (0:Int)) (0:UInt8)) s0 ((List.length s0:Nat):Int) (0:Int)
 else none
 else none
def qsP (s2:UInt8):Option AV:=some (.dat .byte s2 none)
def quW (_n:Nat) (n0:Int):Option AV :=
 bif ((decide ((0:Int)≤(bits .and .i64 n0 (63:Int))))&&(decide ((bits .and .i64 n0 (63:Int)) < (List.length ([65,66,67,68,69,70,71,72,73,74,75,76,77,78,79,80,81,82,83,84,85,86,87,88,89,90,97,98,99,100,101,102,103,104,105,106,107,108,109,110,111,112,113,114,115,116,117,118,119,120,121,122,48,49,50,51,52,53,54,55,56,57,43,47]:List UInt8):Nat)))) then
 qsP (List.getD ([65,66,67,68,69,70,71,72,73,74,75,76,77,78,79,80,81,82,83,84,85,86,87,88,89,90,97,98,99,100,101,102,103,104,105,106,107,108,109,110,111,112,113,114,115,116,117,118,119,120,121,122,48,49,50,51,52,53,54,55,56,57,43,47]:List UInt8) (Int.toNat (bits .and .i64 n0 (63:Int))) (0:UInt8))
 else none
def qhD (s2:List UInt8):Option AV:=some (.dat (.sl .byte) s2 (some (2,5)))
def qoa (k2:List UInt8→Int→Int→List UInt8→Int→Int→Option AV) (next:List UInt8→Int→Int→List UInt8→Int→Int→Option AV) (_n:Nat) (out3:List UInt8) (held4:Int) (many5:Int) (s8:List UInt8) (s9:Int) (s10:Int):Option AV :=
 bif (decide ((6:Int)≤many5)) then
 bif (decide ((0:Int)≤(IntKind.wrap .i64 (many5 - (6:Int))))) then
 bif (decide (List.length out3+List.length ([(z78 (Int.fdiv held4 (2 ^ (min (Int.toNat (IntKind.wrap .i64 (many5 - (6:Int)))) (IntKind.bits .i64)))))]:List UInt8)≤room)) then
 next (out3++([(z78 (Int.fdiv held4 (2 ^ (min (Int.toNat (IntKind.wrap .i64 (many5 - (6:Int)))) (IntKind.bits .i64)))))]:List UInt8)) held4 (IntKind.wrap .i64 (many5 - (6:Int))) s8 s9 s10
 else none
 else none
 else
 k2 out3 held4 many5 s8 s9 s10
def qdq (k2:List UInt8→Int→Int→List UInt8→Int→Int→Option AV):Nat→List UInt8→Int→Int→List UInt8→Int→Int→Option AV
 | 0=>fun _ _ _ _ _ _=>none
 | n+1=>qoa k2 (qdq k2 n) n
def qbA (_k0:List UInt8→Int→Int→Option AV) (next:List UInt8→Int→Int→List UInt8→Int→Int→Option AV) (_n:Nat) (out3:List UInt8) (held4:Int) (many5:Int) (s8:List UInt8) (s9:Int) (s10:Int):Option AV :=
 bif (decide ((0:Int)≤many5)) then
 next out3 (bits .and .i64 held4 (IntKind.wrap .i64 ((IntKind.wrap .i64 ((1:Int)*2 ^ (min (Int.toNat many5) (IntKind.bits .i64)))) - (1:Int)))) many5 s8 s9 (IntKind.wrap .i64 (s10+(1:Int)))
 else none
def qcc (k0:List UInt8→Int→Int→Option AV) (next:List UInt8→Int→Int→List UInt8→Int→Int→Option AV) (n:Nat) (out3:List UInt8) (held4:Int) (many5:Int) (s8:List UInt8) (s9:Int) (s10:Int):Option AV :=
 bif (decide (s10 < s9)) then
 bif ((decide ((0:Int)≤s10))&&(decide (s10 < (List.length s8:Nat)))) then
 qdq (qbA k0 next n) n out3 (bits .or .i64 (IntKind.wrap .i64 (held4*2 ^ (min (Int.toNat (8:Int)) (IntKind.bits .i64)))) (IntKind.wrap .i64 ((UInt8.toNat (List.getD s8 (Int.toNat s10) (0:UInt8)):Nat):Int))) (IntKind.wrap .i64 (many5+(8:Int))) s8 s9 s10
 else none
 else
 k0 out3 held4 many5
def qiF (k0:List UInt8→Int→Int→Option AV):Nat→List UInt8→Int→Int→List UInt8→Int→Int→Option AV
 | 0=>fun _ _ _ _ _ _=>none
 | n+1=>qcc k0 (qiF k0 n) n
def qcd (_n:Nat) (out3:List UInt8) (held4:Int) (many5:Int):Option AV :=
 bif (decide ((0:Int) < many5)) then
 bif (decide ((0:Int)≤(IntKind.wrap .i64 ((6:Int) - many5)))) then
 bif (decide (List.length out3+List.length ([(z78 (IntKind.wrap .i64 (held4*2 ^ (min (Int.toNat (IntKind.wrap .i64 ((6:Int) - many5))) (IntKind.bits .i64)))))]:List UInt8)≤room)) then
 qhD (out3++([(z78 (IntKind.wrap .i64 (held4*2 ^ (min (Int.toNat (IntKind.wrap .i64 ((6:Int) - many5))) (IntKind.bits .i64)))))]:List UInt8))
 else none
 else none
 else
 qhD out3
def qrC (n:Nat) (s0:List UInt8):Option AV :=
 qiF (qcd n) n ([]:List UInt8) (0:Int) (0:Int) s0 ((List.length s0:Nat):Int) (0:Int)
def qdA (s6:List UInt8) (s7:Int):Option AV:=some (.tup [(.dat (.sl .byte) s6 none),(.dat (.int .i64) s7 none)])
def quX (_n:Nat) (charset0:Int) (code1:Int) (s2:List UInt8):Option AV :=
 bif (!(z27 charset0)) then
 qdA ([]:List UInt8) (10:Int)
 else
 bif ((z39 code1)==([]:List UInt8)) then
 qdA ([]:List UInt8) (3:Int)
 else
 bif (((List.length s2:Nat):Int)==(0:Int)) then
 qdA ([]:List UInt8) (3:Int)
 else
 bif ((qsg s2)&&true) then
 bif (code1==(1:Int)) then
 bif ((qwu s2)&&true) then
 bif (decide (List.length (z28 charset0 code1)≤room)) then
 bif (decide (List.length (z28 charset0 code1)+List.length (z41 s2)≤room)) then
 bif (decide (List.length ((z28 charset0 code1)++(z41 s2))+List.length ([63,61]:List UInt8)≤room)) then
 bif (decide ((75:Int) < ((List.length (((z28 charset0 code1)++(z41 s2))++([63,61]:List UInt8)):Nat):Int))) then
 qdA ([]:List UInt8) (12:Int)
 else
 qdA (((z28 charset0 code1)++(z41 s2))++([63,61]:List UInt8)) (0:Int)
 else none
 else none
 else none
 else none
 else
 bif (decide (List.length (z28 charset0 code1)≤room)) then
 bif (decide (List.length (z28 charset0 code1)+List.length (z40 s2)≤room)) then
 bif (decide (List.length ((z28 charset0 code1)++(z40 s2))+List.length ([63,61]:List UInt8)≤room)) then
 bif (decide ((75:Int) < ((List.length (((z28 charset0 code1)++(z40 s2))++([63,61]:List UInt8)):Nat):Int))) then
 qdA ([]:List UInt8) (12:Int)
 else
 qdA (((z28 charset0 code1)++(z40 s2))++([63,61]:List UInt8)) (0:Int)
 else none
 else none
 else none
 else none
def qob (s6:List UInt8) (s7:Int):Option AV:=some (.tup [(.dat (.sl .byte) s6 none),(.dat (.int .i64) s7 none)])
def quY (_n:Nat) (charset0:Int) (code1:Int) (p2:List Int):Option AV :=
 bif ((qlK charset0 p2)&&true) then
 bif (((z23 charset0 p2).2) != (0:Int)) then
 qob ([]:List UInt8) ((z23 charset0 p2).2)
 else
 bif ((qsh charset0 code1 ((z23 charset0 p2).1))&&true) then
 qob ((z24 charset0 code1 ((z23 charset0 p2).1)).1) ((z24 charset0 code1 ((z23 charset0 p2).1)).2)
 else none
 else none
def qeP (s4:List (List UInt8)) (s5:Int):Option AV:=some (.tup [(.dat (.sl (.sl .byte)) s4 none),(.dat (.int .i64) s5 none)])
def qfu (ret:List (List UInt8)→Int→Option AV) (k0:List (List UInt8)→Option AV) (next:Int→Int→List (List UInt8)→List (List Int)→Int→Int→Option AV) (_n:Nat) (charset6:Int) (code7:Int) (out10:List (List UInt8)) (s35:List (List Int)) (s36:Int) (s37:Int):Option AV :=
 bif (decide (s37 < s36)) then
 bif ((decide ((0:Int)≤s37))&&(decide (s37 < (List.length s35:Nat)))) then
 bif ((qrg charset6 code7 (List.getD s35 (Int.toNat s37) ([]:List Int)))&&true) then
 bif (((z15 charset6 code7 (List.getD s35 (Int.toNat s37) ([]:List Int))).2) != (0:Int)) then
 ret ([]:List (List UInt8)) ((z15 charset6 code7 (List.getD s35 (Int.toNat s37) ([]:List Int))).2)
 else
 bif (decide (List.length out10+List.length ([((z15 charset6 code7 (List.getD s35 (Int.toNat s37) ([]:List Int))).1)]:List (List UInt8))≤room)) then
 next charset6 code7 (out10++([((z15 charset6 code7 (List.getD s35 (Int.toNat s37) ([]:List Int))).1)]:List (List UInt8))) s35 s36 (IntKind.wrap .i64 (s37+(1:Int)))
 else none
 else none
 else none
 else
 k0 out10
def z8_l9 (ret:List (List UInt8)→Int→Option AV) (k0:List (List UInt8)→Option AV):Nat→Int→Int→List (List UInt8)→List (List Int)→Int→Int→Option AV
 | 0=>fun _ _ _ _ _ _=>none
 | n+1=>qfu ret k0 (z8_l9 ret k0 n) n
def qhE (_n:Nat) (out10:List (List UInt8)):Option AV :=
 qeP out10 (0:Int)
def z8_sh (n:Nat) (t0:List Int) (first1:Int):Option AV :=
 bif ((qrf t0)&&true) then
 bif (((z14 t0).2.2) != (0:Int)) then
 qeP ([]:List (List UInt8)) ((z14 t0).2.2)
 else
 bif ((z5_ok ((z14 t0).1) ((z14 t0).2.1) t0 first1)&&true) then
 bif (((z5 ((z14 t0).1) ((z14 t0).2.1) t0 first1).2) != (0:Int)) then
 qeP ([]:List (List UInt8)) ((z5 ((z14 t0).1) ((z14 t0).2.1) t0 first1).2)
 else
 z8_l9 qeP (qhE n) n ((z14 t0).1) ((z14 t0).2.1) ([]:List (List UInt8)) ((z5 ((z14 t0).1) ((z14 t0).2.1) t0 first1).1) ((List.length ((z5 ((z14 t0).1) ((z14 t0).2.1) t0 first1).1):Nat):Int) (0:Int)
 else none
 else none
def quZ (s4:List UInt8) (s5:Int):Option AV:=some (.tup [(.dat (.sl .byte) s4 none),(.dat (.int .i64) s5 none)])
def z7_sh (_n:Nat) (t0:List Int) (first1:Int):Option AV :=
 bif ((z8_ok t0 first1)&&true) then
 bif (((z8 t0 first1).2) != (0:Int)) then
 quZ ([]:List UInt8) ((z8 t0 first1).2)
 else
 bif ((qlx ((z8 t0 first1).1) ([(13:UInt8),(10:UInt8),(32:UInt8)]:List UInt8))&&true) then
 quZ (z13 ((z8 t0 first1).1) ([(13:UInt8),(10:UInt8),(32:UInt8)]:List UInt8)) (0:Int)
 else none
 else none
def qxD (s4:Int):Option AV:=some (.dat (.int .i64) s4 none)
def z9_sh (_n:Nat) (t0:List Int) (first1:Int):Option AV :=
 bif ((z8_ok t0 first1)&&true) then
 qxD ((List.length ((z8 t0 first1).1):Nat):Int)
 else none
def qoc (s0:Bool):Option AV:=some (.dat .bool s0 none)
def z4_sh (_n:Nat):Option AV :=
 bif ((z7_ok ([(233:Int)]:List Int) (75:Int))&&true) then
 bif ((z8_ok ([(233:Int)]:List Int) (10:Int))&&true) then
 bif (((z7 ([(233:Int)]:List Int) (75:Int)).1)==([61,63,105,115,111,45,56,56,53,57,45,49,63,81,63,61,69,57,63,61]:List UInt8)) then
 bif (((z7 ([(233:Int)]:List Int) (75:Int)).2)==(0:Int)) then
 bif (((z8 ([(233:Int)]:List Int) (10:Int)).2)==(12:Int)) then
 bif ((z9_ok ([(233:Int)]:List Int) (75:Int))&&true) then
 qoc ((z9 ([(233:Int)]:List Int) (75:Int))==(1:Int))
 else none
 else
 qoc false
 else
 qoc false
 else
 qoc false
 else none
 else none
def qlA (s4:Bool):Option AV:=some (.dat .bool s4 none)
def qfv (ret:Bool→Option AV) (k0:Option AV) (next:List Int→List Int→Int→Option AV) (_n:Nat) (a0:List Int) (b1:List Int) (i5:Int):Option AV :=
 bif (decide (i5 < ((List.length a0:Nat):Int))) then
 bif ((decide ((0:Int)≤i5))&&(decide (i5 < (List.length a0:Nat)))) then
 bif ((decide ((0:Int)≤i5))&&(decide (i5 < (List.length b1:Nat)))) then
 bif ((List.getD a0 (Int.toNat i5) (0:Int)) != (List.getD b1 (Int.toNat i5) (0:Int))) then
 ret false
 else
 next a0 b1 (IntKind.wrap .i64 (i5+(1:Int)))
 else none
 else none
 else
 k0
def z6_l4 (ret:Bool→Option AV) (k0:Option AV):Nat→List Int→List Int→Int→Option AV
 | 0=>fun _ _ _=>none
 | n+1=>qfv ret k0 (z6_l4 ret k0 n) n
def qkq (_n:Nat):Option AV :=
 qlA true
def z6_sh (n:Nat) (a0:List Int) (b1:List Int):Option AV :=
 bif (((List.length a0:Nat):Int) != ((List.length b1:Nat):Int)) then
 qlA false
 else
 z6_l4 qlA (qkq n) n a0 b1 (0:Int)
def qfc (s4:Bool):Option AV:=some (.dat .bool s4 none)
def qfw (ret:Bool→Option AV) (k0:List Int→List Int→Option AV) (next:List Int→List Int→List (List Int)→Int→Int→Option AV) (_n:Nat) (t1:List Int) (all7:List Int) (s33:List (List Int)) (s34:Int) (s35:Int):Option AV :=
 bif (decide (s35 < s34)) then
 bif ((decide ((0:Int)≤s35))&&(decide (s35 < (List.length s33:Nat)))) then
 bif (((List.length (List.getD s33 (Int.toNat s35) ([]:List Int)):Nat):Int)==(0:Int)) then
 ret false
 else
 bif (decide (List.length all7+List.length (List.getD s33 (Int.toNat s35) ([]:List Int))≤room)) then
 next t1 (all7++(List.getD s33 (Int.toNat s35) ([]:List Int))) s33 s34 (IntKind.wrap .i64 (s35+(1:Int)))
 else none
 else none
 else
 k0 t1 all7
def z3_l8 (ret:Bool→Option AV) (k0:List Int→List Int→Option AV):Nat→List Int→List Int→List (List Int)→Int→Int→Option AV
 | 0=>fun _ _ _ _ _=>none
 | n+1=>qfw ret k0 (z3_l8 ret k0 n) n
def qeQ (_n:Nat) (t1:List Int) (all7:List Int):Option AV :=
 bif ((z6_ok all7 t1)&&true) then
 bif (z6 all7 t1) then
 qfc z4
 else
 qfc false
 else none
def z3_sh (n:Nat) (how0:List Int) (t1:List Int):Option AV :=
 bif (decide ((80:Int) < ((List.length t1:Nat):Int))) then
 qfc z4
 else
 bif ((decide ((0:Int)≤(0:Int)))&&(decide ((0:Int) < (3:Nat)))) then
 bif ((decide ((0:Int)≤(1:Int)))&&(decide ((1:Int) < (3:Nat)))) then
 bif ((decide ((0:Int)≤(2:Int)))&&(decide ((2:Int) < (3:Nat)))) then
 bif ((z5_ok (List.getD how0 (Int.toNat (0:Int)) (0:Int)) (List.getD how0 (Int.toNat (1:Int)) (0:Int)) t1 (List.getD how0 (Int.toNat (2:Int)) (0:Int)))&&true) then
 bif (((z5 (List.getD how0 (Int.toNat (0:Int)) (0:Int)) (List.getD how0 (Int.toNat (1:Int)) (0:Int)) t1 (List.getD how0 (Int.toNat (2:Int)) (0:Int))).2) != (0:Int)) then
 bif (((List.length ((z5 (List.getD how0 (Int.toNat (0:Int)) (0:Int)) (List.getD how0 (Int.toNat (1:Int)) (0:Int)) t1 (List.getD how0 (Int.toNat (2:Int)) (0:Int))).1):Nat):Int)==(0:Int)) then
 qfc z4
 else
 qfc false
 else
 z3_l8 qfc (qeQ n) n t1 ([]:List Int) ((z5 (List.getD how0 (Int.toNat (0:Int)) (0:Int)) (List.getD how0 (Int.toNat (1:Int)) (0:Int)) t1 (List.getD how0 (Int.toNat (2:Int)) (0:Int))).1) ((List.length ((z5 (List.getD how0 (Int.toNat (0:Int)) (0:Int)) (List.getD how0 (Int.toNat (1:Int)) (0:Int)) t1 (List.getD how0 (Int.toNat (2:Int)) (0:Int))).1):Nat):Int) (0:Int)
 else none
 else none
 else none
 else none
end
end Go.Av
