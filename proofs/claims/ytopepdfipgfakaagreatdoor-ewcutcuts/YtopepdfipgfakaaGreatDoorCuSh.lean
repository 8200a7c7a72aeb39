import Derived.Test.YtopepdfipgfakaaGreatDoorCuM
import Derived.Test.YtopepdfipgfakaaGreatDoorAvE
namespace Go.Av
set_option linter.unusedSimpArgs false
set_option linter.unusedVariables false
noncomputable section
def qhf (s4:Bool):Option AV:=some (.dat .bool s4 none)
def qdU (ret:Bool→Option AV) (k0:Option AV) (next:List Int→List Int→Int→Option AV) (_n:Nat) (a0:List Int) (b1:List Int) (i5:Int):Option AV :=
 bif (decide (i5 < ((List.length a0:Nat):Int))) then
 bif ((decide ((0:Int)≤i5))&&(decide (i5 < (List.length a0:Nat)))) then
 bif ((decide ((0:Int)≤i5))&&(decide (i5 < (List.length b1:Nat)))) then
 bif ((List.getD a0 (Int.toNat i5) (0:Int)) != (List.getD b1 (Int.toNat i5) (0:Int))) then
 ret false
 else
 next a0 b1 (IntKind.wrap .i64 (i5+(1:Int)))
 else none
 else none
 else
 k0
def qiW (ret:Bool→Option AV) (k0:Option AV):Nat→List Int→List Int→Int→Option AV
 | 0=>fun _ _ _=>none
 | n+1=>qdU ret k0 (qiW ret k0 n) n
def qiX (_n:Nat):Option AV :=
 qhf true
def qyH (n:Nat) (a0:List Int) (b1:List Int):Option AV :=
 bif (((List.length a0:Nat):Int) != ((List.length b1:Nat):Int)) then
 qhf false
 else
 qiW qhf (qiX n) n a0 b1 (0:Int)
def qux (s2:Bool):Option AV:=some (.dat .bool s2 none)
def qCv (_n:Nat) (n0:Int):Option AV :=
 bif (decide ((1:Int)≤n0)) then
 qux (decide (n0≤(5:Int)))
 else
 qux false
def qoC (s2:List UInt8):Option AV:=some (.dat .str s2 none)
def qCw (_n:Nat) (n0:Int):Option AV :=
 bif (n0==(1:Int)) then
 qoC ([66]:List UInt8)
 else
 bif (n0==(2:Int)) then
 qoC ([81]:List UInt8)
 else
 qoC ([]:List UInt8)
def qcw (s2:List (List UInt8)):Option AV:=some (.dat (.sl .str) s2 (some (2,9)))
def quy (_n:Nat) (charset0:Int):Option AV :=
 bif (charset0==(1:Int)) then
 qcw ([([117,115,45,97,115,99,105,105]:List UInt8),([97,115,99,105,105]:List UInt8),([97,110,115,105,95,120,51,46,52,45,49,57,54,56]:List UInt8),([105,115,111,54,52,54,45,117,115]:List UInt8)]:List (List UInt8))
 else
 bif (charset0==(2:Int)) then
 qcw ([([105,115,111,45,56,56,53,57,45,49]:List UInt8),([105,115,111,95,56,56,53,57,45,49]:List UInt8),([108,97,116,105,110,49]:List UInt8),([108,49]:List UInt8)]:List (List UInt8))
 else
 bif (charset0==(3:Int)) then
 qcw ([([105,115,111,45,56,56,53,57,45,49,53]:List UInt8),([105,115,111,95,56,56,53,57,45,49,53]:List UInt8),([108,97,116,105,110,45,57]:List UInt8)]:List (List UInt8))
 else
 bif (charset0==(4:Int)) then
 qcw ([([119,105,110,100,111,119,115,45,49,50,53,50]:List UInt8),([99,112,49,50,53,50]:List UInt8)]:List (List UInt8))
 else
 bif (charset0==(5:Int)) then
 qcw ([([117,116,102,45,56]:List UInt8),([117,116,102,56]:List UInt8)]:List (List UInt8))
 else
 qcw ([]:List (List UInt8))
def quz (s2:List UInt8):Option AV:=some (.dat .str s2 none)
def qCx (_n:Nat) (charset0:Int):Option AV :=
 bif (((List.length (z133 charset0):Nat):Int)==(0:Int)) then
 quz ([]:List UInt8)
 else
 bif ((decide ((0:Int)≤(0:Int)))&&(decide ((0:Int) < (List.length (z133 charset0):Nat)))) then
 quz (List.getD (z133 charset0) (Int.toNat (0:Int)) ([]:List UInt8))
 else none
def qAL (s4:List UInt8):Option AV:=some (.dat .str s4 none)
def qCy (_n:Nat) (charset0:Int) (code1:Int):Option AV :=
 bif (decide (List.length ([61,63]:List UInt8)+List.length (z89 charset0)≤9223372036854775807)) then
 bif (decide (List.length (([61,63]:List UInt8)++(z89 charset0))+List.length ([63]:List UInt8)≤9223372036854775807)) then
 bif (decide (List.length ((([61,63]:List UInt8)++(z89 charset0))++([63]:List UInt8))+List.length (z45 code1)≤9223372036854775807)) then
 bif (decide (List.length (((([61,63]:List UInt8)++(z89 charset0))++([63]:List UInt8))++(z45 code1))+List.length ([63]:List UInt8)≤9223372036854775807)) then
 qAL ((((([61,63]:List UInt8)++(z89 charset0))++([63]:List UInt8))++(z45 code1))++([63]:List UInt8))
 else none
 else none
 else none
 else none
def qkA (s2:Int):Option AV:=some (.dat (.int .i64) s2 none)
def qCz (_n:Nat) (charset0:Int):Option AV :=
 bif (!(z44 charset0)) then
 qkA (0:Int)
 else
 qkA (IntKind.wrap .i64 ((IntKind.wrap .i64 (((List.length (z48 charset0 (2:Int)):Nat):Int)+(1:Int)))+(1:Int)))
def qaN (s2:Int):Option AV:=some (.dat (.int .i64) s2 none)
def quA (_n:Nat) (charset0:Int):Option AV :=
 bif (charset0==(1:Int)) then
 qaN (128:Int)
 else
 bif (charset0==(2:Int)) then
 bif (charset0==(2:Int)) then
 qaN (256:Int)
 else
 bif (charset0==(4:Int)) then
 qaN (251:Int)
 else
 bif (charset0==(5:Int)) then
 qaN (1112064:Int)
 else
 qaN (0:Int)
 else
 bif (charset0==(3:Int)) then
 qaN (256:Int)
 else
 bif (charset0==(4:Int)) then
 qaN (251:Int)
 else
 bif (charset0==(5:Int)) then
 qaN (1112064:Int)
 else
 qaN (0:Int)
def quB (s2:Bool):Option AV:=some (.dat .bool s2 none)
def qAM (_n:Nat) (c0:Int):Option AV :=
 quB (decide ((IntKind.wrap .u32 c0) < (256:Int)))
def quC (s0:List (UInt8×(Int×Unit))):Option AV:=some (.dat (.arr 8 (.pair .byte (.pair (.int .i32) .unit))) s0 none)
def qAN (_n:Nat):Option AV :=
 quC ([((164:UInt8),((8364:Int),())),((166:UInt8),((352:Int),())),((168:UInt8),((353:Int),())),((180:UInt8),((381:Int),())),((184:UInt8),((382:Int),())),((188:UInt8),((338:Int),())),((189:UInt8),((339:Int),())),((190:UInt8),((376:Int),()))]:List (UInt8×(Int×Unit)))
def qbx (s2:UInt8) (s3:Bool):Option AV:=some (.tup [(.dat .byte s2 none),(.dat .bool s3 none)])
def qoD (ret:UInt8→Bool→Option AV) (k0:Int→Option AV) (next:Int→List (UInt8×(Int×Unit))→Int→Option AV) (_n:Nat) (c0:Int) (s6:List (UInt8×(Int×Unit))) (s7:Int):Option AV :=
 bif (decide (s7 < (8:Int))) then
 bif ((decide ((0:Int)≤s7))&&(decide (s7 < (8:Nat)))) then
 bif (c0==(List.getD s6 (Int.toNat s7) ((0:UInt8),((0:Int),()))).2.1) then
 ret (List.getD s6 (Int.toNat s7) ((0:UInt8),((0:Int),()))).1 true
 else
 bif (c0==(IntKind.wrap .i32 ((UInt8.toNat (List.getD s6 (Int.toNat s7) ((0:UInt8),((0:Int),()))).1:Nat):Int))) then
 ret (0:UInt8) false
 else
 next c0 s6 (IntKind.wrap .i64 (s7+(1:Int)))
 else none
 else
 k0 c0
def qhg (ret:UInt8→Bool→Option AV) (k0:Int→Option AV):Nat→Int→List (UInt8×(Int×Unit))→Int→Option AV
 | 0=>fun _ _ _=>none
 | n+1=>qoD ret k0 (qhg ret k0 n) n
def qbL (_n:Nat) (c0:Int):Option AV :=
 bif (decide (c0 < (0:Int))) then
 qbx (0:UInt8) false
 else
 bif (decide ((256:Int)≤c0)) then
 qbx (0:UInt8) false
 else
 qbx (UInt8.ofNat (Int.toNat (IntKind.wrap .u8 c0))) true
def quD (n:Nat) (c0:Int):Option AV :=
 qhg qbx (qbL n) n c0 z185 (0:Int)
def quE (s2:Bool):Option AV:=some (.dat .bool s2 none)
def qAO (_n:Nat) (c0:Int):Option AV :=
 quE ((z205 c0).2)
def quF (s0:List Int):Option AV:=some (.dat (.sl (.int .i32)) s0 none)
def qAP (_n:Nat):Option AV :=
 quF (List.drop 0 (List.take 32 ([(8364:Int),(0:Int),(8218:Int),(402:Int),(8222:Int),(8230:Int),(8224:Int),(8225:Int),(710:Int),(8240:Int),(352:Int),(8249:Int),(338:Int),(0:Int),(381:Int),(0:Int),(0:Int),(8216:Int),(8217:Int),(8220:Int),(8221:Int),(8226:Int),(8211:Int),(8212:Int),(732:Int),(8482:Int),(353:Int),(8250:Int),(339:Int),(0:Int),(382:Int),(376:Int)]:List Int)))
def qfY (s4:Int):Option AV:=some (.dat (.int .i64) s4 none)
def qbM (ret:Int→Option AV) (k0:Option AV) (next:List Int→Int→Int→Int→Option AV) (_n:Nat) (s0:List Int) (v1:Int) (s7:Int) (s8:Int):Option AV :=
 bif (decide (s8 < s7)) then
 bif ((decide ((0:Int)≤s8))&&(decide (s8 < (List.length s0:Nat)))) then
 bif (v1==(List.getD s0 (Int.toNat s8) (0:Int))) then
 ret s8
 else
 next s0 v1 s7 (IntKind.wrap .i64 (s8+(1:Int)))
 else none
 else
 k0
def qfZ (ret:Int→Option AV) (k0:Option AV):Nat→List Int→Int→Int→Int→Option AV
 | 0=>fun _ _ _ _=>none
 | n+1=>qbM ret k0 (qfZ ret k0 n) n
def qdh (_n:Nat):Option AV :=
 qfY (-1:Int)
def qoE (n:Nat) (s0:List Int) (v1:Int):Option AV :=
 qfZ qfY (qdh n) n s0 v1 ((List.length s0:Nat):Int) (0:Int)
def qH (s2:UInt8) (s3:Bool):Option AV:=some (.tup [(.dat .byte s2 none),(.dat .bool s3 none)])
def quG (_n:Nat) (c0:Int):Option AV :=
 bif (decide ((0:Int)≤c0)) then
 bif (decide (c0 < (128:Int))) then
 bif (decide (c0 < (128:Int))) then
 qH (UInt8.ofNat (Int.toNat (IntKind.wrap .u8 c0))) true
 else
 bif (decide (c0 < (256:Int))) then
 qH (0:UInt8) false
 else
 bif ((qeE z186 c0)&&true) then
 bif (decide ((z233 z186 c0) < (0:Int))) then
 qH (0:UInt8) false
 else
 qH (UInt8.ofNat (Int.toNat (IntKind.wrap .u8 (IntKind.wrap .i64 ((128:Int)+(z233 z186 c0)))))) true
 else none
 else
 bif (decide ((160:Int)≤c0)) then
 bif (decide (c0 < (256:Int))) then
 qH (UInt8.ofNat (Int.toNat (IntKind.wrap .u8 c0))) true
 else
 bif (decide (c0 < (256:Int))) then
 qH (0:UInt8) false
 else
 bif ((qeE z186 c0)&&true) then
 bif (decide ((z233 z186 c0) < (0:Int))) then
 qH (0:UInt8) false
 else
 qH (UInt8.ofNat (Int.toNat (IntKind.wrap .u8 (IntKind.wrap .i64 ((128:Int)+(z233 z186 c0)))))) true
 else none
 else
 bif (decide (c0 < (256:Int))) then
 qH (0:UInt8) false
 else
 bif ((qeE z186 c0)&&true) then
 bif (decide ((z233 z186 c0) < (0:Int))) then
 qH (0:UInt8) false
 else
 qH (UInt8.ofNat (Int.toNat (IntKind.wrap .u8 (IntKind.wrap .i64 ((128:Int)+(z233 z186 c0)))))) true
 else none
 else
 bif (decide ((160:Int)≤c0)) then
 bif (decide (c0 < (256:Int))) then
 qH (UInt8.ofNat (Int.toNat (IntKind.wrap .u8 c0))) true
 else
 bif (decide (c0 < (256:Int))) then
 qH (0:UInt8) false
 else
 bif ((qeE z186 c0)&&true) then
 bif (decide ((z233 z186 c0) < (0:Int))) then
 qH (0:UInt8) false
 else
 qH (UInt8.ofNat (Int.toNat (IntKind.wrap .u8 (IntKind.wrap .i64 ((128:Int)+(z233 z186 c0)))))) true
 else none
 else
 bif (decide (c0 < (256:Int))) then
 qH (0:UInt8) false
 else
 bif ((qeE z186 c0)&&true) then
 bif (decide ((z233 z186 c0) < (0:Int))) then
 qH (0:UInt8) false
 else
 qH (UInt8.ofNat (Int.toNat (IntKind.wrap .u8 (IntKind.wrap .i64 ((128:Int)+(z233 z186 c0)))))) true
 else none
def quH (s2:Bool):Option AV:=some (.dat .bool s2 none)
def qAQ (_n:Nat) (c0:Int):Option AV :=
 quH ((z207 c0).2)
def qmn (s2:Bool):Option AV:=some (.dat .bool s2 none)
def quI (_n:Nat) (c0:Int):Option AV :=
 bif (decide ((55296:Int)≤c0)) then
 qmn (decide (c0≤(57343:Int)))
 else
 qmn false
def qmo (s2:Bool):Option AV:=some (.dat .bool s2 none)
def quJ (_n:Nat) (c0:Int):Option AV :=
 bif (decide ((IntKind.wrap .u32 c0)≤(1114111:Int))) then
 qmo (!(z230 c0))
 else
 qmo false
def qby (s4:Bool):Option AV:=some (.dat .bool s4 none)
def quK (_n:Nat) (charset0:Int) (c1:Int):Option AV :=
 bif (charset0==(1:Int)) then
 bif (decide ((0:Int)≤c1)) then
 qby (decide (c1 < (128:Int)))
 else
 qby false
 else
 bif (charset0==(2:Int)) then
 qby (z196 c1)
 else
 bif (charset0==(3:Int)) then
 qby (z197 c1)
 else
 bif (charset0==(4:Int)) then
 qby (z198 c1)
 else
 bif (charset0==(5:Int)) then
 qby (z199 c1)
 else
 qby false
def qga (s4:Int):Option AV:=some (.dat (.int .i64) s4 none)
def qbN (ret:Int→Option AV) (k0:Option AV) (next:Int→List Int→Int→Int→Option AV) (_n:Nat) (charset0:Int) (s7:List Int) (s8:Int) (s9:Int):Option AV :=
 bif (decide (s9 < s8)) then
 bif ((decide ((0:Int)≤s9))&&(decide (s9 < (List.length s7:Nat)))) then
 bif (!(z157 charset0 (List.getD s7 (Int.toNat s9) (0:Int)))) then
 ret s9
 else
 next charset0 s7 s8 (IntKind.wrap .i64 (s9+(1:Int)))
 else none
 else
 k0
def qgb (ret:Int→Option AV) (k0:Option AV):Nat→Int→List Int→Int→Int→Option AV
 | 0=>fun _ _ _ _=>none
 | n+1=>qbN ret k0 (qgb ret k0 n) n
def qdi (_n:Nat):Option AV :=
 qga (-1:Int)
def qoF (n:Nat) (charset0:Int) (t1:List Int):Option AV :=
 qgb qga (qdi n) n charset0 t1 ((List.length t1:Nat):Int) (0:Int)
def qmp (s4:Bool):Option AV:=some (.dat .bool s4 none)
def quL (_n:Nat) (charset0:Int) (t1:List Int):Option AV :=
 bif (decide ((0:Int) < (z161 charset0))) then
 bif ((qpA charset0 t1)&&true) then
 qmp ((z202 charset0 t1)==(-1:Int))
 else none
 else
 qmp false
def quM (s2:Bool):Option AV:=some (.dat .bool s2 none)
def qAR (_n:Nat) (c0:Int):Option AV :=
 quM (!(z199 c0))
def qgc (s4:Int):Option AV:=some (.dat (.int .i64) s4 none)
def qbO (ret:Int→Option AV) (k0:Option AV) (next:List Int→Int→Int→Option AV) (_n:Nat) (s0:List Int) (s7:Int) (s8:Int):Option AV :=
 bif (decide (s8 < s7)) then
 bif ((decide ((0:Int)≤s8))&&(decide (s8 < (List.length s0:Nat)))) then
 bif (z243 (List.getD s0 (Int.toNat s8) (0:Int))) then
 ret s8
 else
 next s0 s7 (IntKind.wrap .i64 (s8+(1:Int)))
 else none
 else
 k0
def qgd (ret:Int→Option AV) (k0:Option AV):Nat→List Int→Int→Int→Option AV
 | 0=>fun _ _ _=>none
 | n+1=>qbO ret k0 (qgd ret k0 n) n
def qdj (_n:Nat):Option AV :=
 qgc (-1:Int)
def qoG (n:Nat) (s0:List Int):Option AV :=
 qgd qgc (qdj n) n s0 ((List.length s0:Nat):Int) (0:Int)
def quN (s2:Int):Option AV:=some (.dat (.int .i64) s2 none)
def quO (_n:Nat) (t0:List Int):Option AV :=
 bif ((qpq t0)&&true) then
 quN (z242 t0)
 else none
def quP (s2:Bool):Option AV:=some (.dat .bool s2 none)
def quQ (_n:Nat) (t0:List Int):Option AV :=
 bif ((qpr t0)&&true) then
 quP ((z231 t0)==(-1:Int))
 else none
def qge (s2:UInt8):Option AV:=some (.dat .byte s2 none)
def quR (_n:Nat) (n0:Int):Option AV :=
 bif (n0==(2:Int)) then
 qge (192:UInt8)
 else
 bif (n0==(3:Int)) then
 qge (224:UInt8)
 else
 bif (n0==(4:Int)) then
 qge (240:UInt8)
 else
 qge (0:UInt8)
def qdV (s2:Int):Option AV:=some (.dat (.int .i64) s2 none)
def quS (_n:Nat) (c0:Int):Option AV :=
 bif (!(z199 c0)) then
 qdV (0:Int)
 else
 bif (decide (c0 < (128:Int))) then
 qdV (1:Int)
 else
 bif (decide (c0 < (2048:Int))) then
 qdV (2:Int)
 else
 bif (decide (c0 < (65536:Int))) then
 qdV (3:Int)
 else
 qdV (4:Int)
def qdW (s4:List UInt8) (s5:Int):Option AV:=some (.tup [(.dat (.sl .byte) s4 none),(.dat (.int .i64) s5 none)])
def quT (_n:Nat) (b0:List UInt8) (c1:Int):Option AV :=
 bif ((z232 c1)==(0:Int)) then
 qdW ([]:List UInt8) (7:Int)
 else
 bif (decide ((0:Int)≤(IntKind.wrap .i64 ((6:Int)*(IntKind.wrap .i64 ((z232 c1) - (1:Int))))))) then
 bif ((qws b0)&&true) then
 bif (decide (List.length (z38 b0)+List.length ([((z218 (z232 c1)) ||| (UInt8.ofNat (Int.toNat (IntKind.wrap .u8 (Int.fdiv c1 (2 ^ (min (Int.toNat (IntKind.wrap .i64 ((6:Int)*(IntKind.wrap .i64 ((z232 c1) - (1:Int)))))) (IntKind.bits .i32))))))))]:List UInt8)≤room)) then
 bif ((z232 c1)==(4:Int)) then
 bif (decide (List.length ((z38 b0)++([((z218 (z232 c1)) ||| (UInt8.ofNat (Int.toNat (IntKind.wrap .u8 (Int.fdiv c1 (2 ^ (min (Int.toNat (IntKind.wrap .i64 ((6:Int)*(IntKind.wrap .i64 ((z232 c1) - (1:Int)))))) (IntKind.bits .i32))))))))]:List UInt8))+List.length ([((128:UInt8) ||| ((UInt8.ofNat (Int.toNat (IntKind.wrap .u8 (Int.fdiv c1 (2 ^ (min (Int.toNat (12:Int)) (IntKind.bits .i32))))))) &&& (63:UInt8)))]:List UInt8)≤room)) then
 bif (decide (List.length (((z38 b0)++([((z218 (z232 c1)) ||| (UInt8.ofNat (Int.toNat (IntKind.wrap .u8 (Int.fdiv c1 (2 ^ (min (Int.toNat (IntKind.wrap .i64 ((6:Int)*(IntKind.wrap .i64 ((z232 c1) - (1:Int)))))) (IntKind.bits .i32))))))))]:List UInt8))++([((128:UInt8) ||| ((UInt8.ofNat (Int.toNat (IntKind.wrap .u8 (Int.fdiv c1 (2 ^ (min (Int.toNat (12:Int)) (IntKind.bits .i32))))))) &&& (63:UInt8)))]:List UInt8))+List.length ([((128:UInt8) ||| ((UInt8.ofNat (Int.toNat (IntKind.wrap .u8 (Int.fdiv c1 (2 ^ (min (Int.toNat (6:Int)) (IntKind.bits .i32))))))) &&& (63:UInt8)))]:List UInt8)≤room)) then
 bif (decide (List.length ((((z38 b0)++([((z218 (z232 c1)) ||| (UInt8.ofNat (Int.toNat (IntKind.wrap .u8 (Int.fdiv c1 (2 ^ (min (Int.toNat (IntKind.wrap .i64 ((6:Int)*(IntKind.wrap .i64 ((z232 c1) - (1:Int)))))) (IntKind.bits .i32))))))))]:List UInt8))++([((128:UInt8) ||| ((UInt8.ofNat (Int.toNat (IntKind.wrap .u8 (Int.fdiv c1 (2 ^ (min (Int.toNat (12:Int)) (IntKind.bits .i32))))))) &&& (63:UInt8)))]:List UInt8))++([((128:UInt8) ||| ((UInt8.ofNat (Int.toNat (IntKind.wrap .u8 (Int.fdiv c1 (2 ^ (min (Int.toNat (6:Int)) (IntKind.bits .i32))))))) &&& (63:UInt8)))]:List UInt8))+List.length ([((128:UInt8) ||| ((UInt8.ofNat (Int.toNat (IntKind.wrap .u8 c1))) &&& (63:UInt8)))]:List UInt8)≤room)) then
 qdW (((((z38 b0)++([((z218 (z232 c1)) ||| (UInt8.ofNat (Int.toNat (IntKind.wrap .u8 (Int.fdiv c1 (2 ^ (min (Int.toNat (IntKind.wrap .i64 ((6:Int)*(IntKind.wrap .i64 ((z232 c1) - (1:Int)))))) (IntKind.bits .i32))))))))]:List UInt8))++([((128:UInt8) ||| ((UInt8.ofNat (Int.toNat (IntKind.wrap .u8 (Int.fdiv c1 (2 ^ (min (Int.toNat (12:Int)) (IntKind.bits .i32))))))) &&& (63:UInt8)))]:List UInt8))++([((128:UInt8) ||| ((UInt8.ofNat (Int.toNat (IntKind.wrap .u8 (Int.fdiv c1 (2 ^ (min (Int.toNat (6:Int)) (IntKind.bits .i32))))))) &&& (63:UInt8)))]:List UInt8))++([((128:UInt8) ||| ((UInt8.ofNat (Int.toNat (IntKind.wrap .u8 c1))) &&& (63:UInt8)))]:List UInt8)) (0:Int)
 else none
 else none
 else none
 else
 bif ((z232 c1)==(3:Int)) then
 bif (decide (List.length ((z38 b0)++([((z218 (z232 c1)) ||| (UInt8.ofNat (Int.toNat (IntKind.wrap .u8 (Int.fdiv c1 (2 ^ (min (Int.toNat (IntKind.wrap .i64 ((6:Int)*(IntKind.wrap .i64 ((z232 c1) - (1:Int)))))) (IntKind.bits .i32))))))))]:List UInt8))+List.length ([((128:UInt8) ||| ((UInt8.ofNat (Int.toNat (IntKind.wrap .u8 (Int.fdiv c1 (2 ^ (min (Int.toNat (6:Int)) (IntKind.bits .i32))))))) &&& (63:UInt8)))]:List UInt8)≤room)) then
 bif (decide (List.length (((z38 b0)++([((z218 (z232 c1)) ||| (UInt8.ofNat (Int.toNat (IntKind.wrap .u8 (Int.fdiv c1 (2 ^ (min (Int.toNat (IntKind.wrap .i64 ((6:Int)*(IntKind.wrap .i64 ((z232 c1) - (1:Int)))))) (IntKind.bits .i32))))))))]:List UInt8))++([((128:UInt8) ||| ((UInt8.ofNat (Int.toNat (IntKind.wrap .u8 (Int.fdiv c1 (2 ^ (min (Int.toNat (6:Int)) (IntKind.bits .i32))))))) &&& (63:UInt8)))]:List UInt8))+List.length ([((128:UInt8) ||| ((UInt8.ofNat (Int.toNat (IntKind.wrap .u8 c1))) &&& (63:UInt8)))]:List UInt8)≤room)) then
 qdW ((((z38 b0)++([((z218 (z232 c1)) ||| (UInt8.ofNat (Int.toNat (IntKind.wrap .u8 (Int.fdiv c1 (2 ^ (min (Int.toNat (IntKind.wrap .i64 ((6:Int)*(IntKind.wrap .i64 ((z232 c1) - (1:Int)))))) (IntKind.bits .i32))))))))]:List UInt8))++([((128:UInt8) ||| ((UInt8.ofNat (Int.toNat (IntKind.wrap .u8 (Int.fdiv c1 (2 ^ (min (Int.toNat (6:Int)) (IntKind.bits .i32))))))) &&& (63:UInt8)))]:List UInt8))++([((128:UInt8) ||| ((UInt8.ofNat (Int.toNat (IntKind.wrap .u8 c1))) &&& (63:UInt8)))]:List UInt8)) (0:Int)
 else none
 else none
 else
 bif ((z232 c1)==(2:Int)) then
 bif (decide (List.length ((z38 b0)++([((z218 (z232 c1)) ||| (UInt8.ofNat (Int.toNat (IntKind.wrap .u8 (Int.fdiv c1 (2 ^ (min (Int.toNat (IntKind.wrap .i64 ((6:Int)*(IntKind.wrap .i64 ((z232 c1) - (1:Int)))))) (IntKind.bits .i32))))))))]:List UInt8))+List.length ([((128:UInt8) ||| ((UInt8.ofNat (Int.toNat (IntKind.wrap .u8 c1))) &&& (63:UInt8)))]:List UInt8)≤room)) then
 qdW (((z38 b0)++([((z218 (z232 c1)) ||| (UInt8.ofNat (Int.toNat (IntKind.wrap .u8 (Int.fdiv c1 (2 ^ (min (Int.toNat (IntKind.wrap .i64 ((6:Int)*(IntKind.wrap .i64 ((z232 c1) - (1:Int)))))) (IntKind.bits .i32))))))))]:List UInt8))++([((128:UInt8) ||| ((UInt8.ofNat (Int.toNat (IntKind.wrap .u8 c1))) &&& (63:UInt8)))]:List UInt8)) (0:Int)
 else none
 else
 qdW ((z38 b0)++([((z218 (z232 c1)) ||| (UInt8.ofNat (Int.toNat (IntKind.wrap .u8 (Int.fdiv c1 (2 ^ (min (Int.toNat (IntKind.wrap .i64 ((6:Int)*(IntKind.wrap .i64 ((z232 c1) - (1:Int)))))) (IntKind.bits .i32))))))))]:List UInt8)) (0:Int)
 else none
 else none
 else none
def qmq (s2:List UInt8) (s3:Int):Option AV:=some (.tup [(.dat (.sl .byte) s2 none),(.dat (.int .i64) s3 none)])
def qbP (k0:List UInt8→Option AV) (next:List UInt8→List Int→Int→Int→Option AV) (_n:Nat) (out4:List UInt8) (s12:List Int) (s13:Int) (s14:Int):Option AV :=
 bif (decide (s14 < s13)) then
 bif ((decide ((0:Int)≤s14))&&(decide (s14 < (List.length s12:Nat)))) then
 bif ((qpt ([]:List UInt8) (List.getD s12 (Int.toNat s14) (0:Int)))&&true) then
 bif (decide (List.length out4+List.length ((z204 ([]:List UInt8) (List.getD s12 (Int.toNat s14) (0:Int))).1)≤room)) then
 next (out4++((z204 ([]:List UInt8) (List.getD s12 (Int.toNat s14) (0:Int))).1)) s12 s13 (IntKind.wrap .i64 (s14+(1:Int)))
 else none
 else none
 else none
 else
 k0 out4
def qgf (k0:List UInt8→Option AV):Nat→List UInt8→List Int→Int→Int→Option AV
 | 0=>fun _ _ _ _=>none
 | n+1=>qbP k0 (qgf k0 n) n
def qbQ (_n:Nat) (out4:List UInt8):Option AV :=
 qmq out4 (0:Int)
def qoH (n:Nat) (t0:List Int):Option AV :=
 bif ((qps t0)&&true) then
 bif (!(z203 t0)) then
 qmq ([]:List UInt8) (7:Int)
 else
 qgf (qbQ n) n ([]:List UInt8) t0 ((List.length t0:Nat):Int) (0:Int)
 else none
def qdX (s2:List UInt8) (s3:Int):Option AV:=some (.tup [(.dat (.sl .byte) s2 none),(.dat (.int .i64) s3 none)])
def qbR (ret:List UInt8→Int→Option AV) (k0:List UInt8→Option AV) (next:List UInt8→List Int→Int→Int→Option AV) (_n:Nat) (s4:List UInt8) (s9:List Int) (s10:Int) (s11:Int):Option AV :=
 bif (decide (s11 < s10)) then
 bif ((decide ((0:Int)≤s11))&&(decide (s11 < (List.length s9:Nat)))) then
 bif (!((z205 (List.getD s9 (Int.toNat s11) (0:Int))).2)) then
 ret ([]:List UInt8) (9:Int)
 else
 bif (decide (List.length s4+List.length ([((z205 (List.getD s9 (Int.toNat s11) (0:Int))).1)]:List UInt8)≤room)) then
 next (s4++([((z205 (List.getD s9 (Int.toNat s11) (0:Int))).1)]:List UInt8)) s9 s10 (IntKind.wrap .i64 (s11+(1:Int)))
 else none
 else none
 else
 k0 s4
def qgg (ret:List UInt8→Int→Option AV) (k0:List UInt8→Option AV):Nat→List UInt8→List Int→Int→Int→Option AV
 | 0=>fun _ _ _ _=>none
 | n+1=>qbR ret k0 (qgg ret k0 n) n
def qbS (_n:Nat) (s4:List UInt8):Option AV :=
 qdX s4 (0:Int)
def qoI (n:Nat) (t0:List Int):Option AV :=
 qgg qdX (qbS n) n ([]:List UInt8) t0 ((List.length t0:Nat):Int) (0:Int)
def qgh (s2:Int):Option AV:=some (.dat (.int .i64) s2 none)
def qbT (ret:Int→Option AV) (k0:Option AV) (next:List Int→Int→Int→Option AV) (_n:Nat) (s5:List Int) (s6:Int) (s7:Int):Option AV :=
 bif (decide (s7 < s6)) then
 bif ((decide ((0:Int)≤s7))&&(decide (s7 < (List.length s5:Nat)))) then
 bif (!(z198 (List.getD s5 (Int.toNat s7) (0:Int)))) then
 ret s7
 else
 next s5 s6 (IntKind.wrap .i64 (s7+(1:Int)))
 else none
 else
 k0
def qgi (ret:Int→Option AV) (k0:Option AV):Nat→List Int→Int→Int→Option AV
 | 0=>fun _ _ _=>none
 | n+1=>qbT ret k0 (qgi ret k0 n) n
def qdk (_n:Nat):Option AV :=
 qgh (-1:Int)
def qoJ (n:Nat) (t0:List Int):Option AV :=
 qgi qgh (qdk n) n t0 ((List.length t0:Nat):Int) (0:Int)
def qmr (s2:List UInt8) (s3:Int):Option AV:=some (.tup [(.dat (.sl .byte) s2 none),(.dat (.int .i64) s3 none)])
def qbU (k0:List UInt8→Option AV) (next:List UInt8→List Int→Int→Int→Option AV) (_n:Nat) (s4:List UInt8) (s15:List Int) (s16:Int) (s17:Int):Option AV :=
 bif (decide (s17 < s16)) then
 bif ((decide ((0:Int)≤s17))&&(decide (s17 < (List.length s15:Nat)))) then
 bif (decide (List.length s4+List.length ([((z207 (List.getD s15 (Int.toNat s17) (0:Int))).1)]:List UInt8)≤room)) then
 next (s4++([((z207 (List.getD s15 (Int.toNat s17) (0:Int))).1)]:List UInt8)) s15 s16 (IntKind.wrap .i64 (s17+(1:Int)))
 else none
 else none
 else
 k0 s4
def qgj (k0:List UInt8→Option AV):Nat→List UInt8→List Int→Int→Int→Option AV
 | 0=>fun _ _ _ _=>none
 | n+1=>qbU k0 (qgj k0 n) n
def qbV (_n:Nat) (s4:List UInt8):Option AV :=
 qmr s4 (0:Int)
def qoK (n:Nat) (t0:List Int):Option AV :=
 bif ((qpu t0)&&true) then
 bif (decide ((0:Int)≤(z206 t0))) then
 qmr ([]:List UInt8) (9:Int)
 else
 bif (((decide ((0:Int)≤(0:Int)))&&(decide ((0:Int)≤((List.length t0:Nat):Int))))&&(decide (((List.length t0:Nat):Int)≤(room:Int)))) then
 qgj (qbV n) n (List.replicate (Int.toNat (0:Int)) (0:UInt8)) t0 ((List.length t0:Nat):Int) (0:Int)
 else none
 else none
def qgk (s2:Int):Option AV:=some (.dat (.int .i64) s2 none)
def qbW (ret:Int→Option AV) (k0:Option AV) (next:List Int→Int→Int→Option AV) (_n:Nat) (t0:List Int) (s5:Int) (s6:Int):Option AV :=
 bif (decide (s6 < s5)) then
 bif ((decide ((0:Int)≤s6))&&(decide (s6 < (List.length t0:Nat)))) then
 bif (!(z196 (List.getD t0 (Int.toNat s6) (0:Int)))) then
 ret s6
 else
 next t0 s5 (IntKind.wrap .i64 (s6+(1:Int)))
 else none
 else
 k0
def qgl (ret:Int→Option AV) (k0:Option AV):Nat→List Int→Int→Int→Option AV
 | 0=>fun _ _ _=>none
 | n+1=>qbW ret k0 (qgl ret k0 n) n
def qdl (_n:Nat):Option AV :=
 qgk (-1:Int)
def qoL (n:Nat) (t0:List Int):Option AV :=
 qgl qgk (qdl n) n t0 ((List.length t0:Nat):Int) (0:Int)
def qms (s2:List UInt8) (s3:Int):Option AV:=some (.tup [(.dat (.sl .byte) s2 none),(.dat (.int .i64) s3 none)])
def qbX (k0:List UInt8→Option AV) (next:List UInt8→List Int→Int→Int→Option AV) (_n:Nat) (s4:List UInt8) (s13:List Int) (s14:Int) (s15:Int):Option AV :=
 bif (decide (s15 < s14)) then
 bif ((decide ((0:Int)≤s15))&&(decide (s15 < (List.length s13:Nat)))) then
 bif ((decide ((0:Int)≤s15))&&(decide (s15 < (List.length s4:Nat)))) then
 next (List.set s4 (Int.toNat s15) (UInt8.ofNat (Int.toNat (IntKind.wrap .u8 (List.getD s13 (Int.toNat s15) (0:Int)))))) s13 s14 (IntKind.wrap .i64 (s15+(1:Int)))
 else none
 else none
 else
 k0 s4
def qdm (k0:List UInt8→Option AV):Nat→List UInt8→List Int→Int→Int→Option AV
 | 0=>fun _ _ _ _=>none
 | n+1=>qbX k0 (qdm k0 n) n
def qbY (_n:Nat) (s4:List UInt8):Option AV :=
 qms s4 (0:Int)
def qoM (n:Nat) (t0:List Int):Option AV :=
 bif ((qpv t0)&&true) then
 bif ((z208 t0) != (-1:Int)) then
 qms ([]:List UInt8) (9:Int)
 else
 bif (((decide ((0:Int)≤((List.length t0:Nat):Int)))&&(decide (((List.length t0:Nat):Int)≤((List.length t0:Nat):Int))))&&(decide (((List.length t0:Nat):Int)≤(room:Int)))) then
 qdm (qbY n) n (List.replicate (Int.toNat ((List.length t0:Nat):Int)) (0:UInt8)) t0 ((List.length t0:Nat):Int) (0:Int)
 else none
 else none
def qcx (s4:List UInt8) (s5:Int):Option AV:=some (.tup [(.dat (.sl .byte) s4 none),(.dat (.int .i64) s5 none)])
def quU (_n:Nat) (charset0:Int) (t1:List Int):Option AV :=
 bif ((z161 charset0)==(0:Int)) then
 qcx ([]:List UInt8) (10:Int)
 else
 bif ((qpB charset0 t1)&&true) then
 bif (!(z162 charset0 t1)) then
 qcx ([]:List UInt8) (9:Int)
 else
 bif (charset0==(5:Int)) then
 bif ((qpz t1)&&true) then
 qcx ((z163 t1).1) ((z163 t1).2)
 else none
 else
 bif (charset0==(3:Int)) then
 bif ((qpx t1)&&true) then
 qcx ((z164 t1).1) ((z164 t1).2)
 else none
 else
 bif (charset0==(4:Int)) then
 bif ((qpy t1)&&true) then
 qcx ((z165 t1).1) ((z165 t1).2)
 else none
 else
 bif ((qpw t1)&&true) then
 qcx ((z166 t1).1) ((z166 t1).2)
 else none
 else none
def qf (s2:Int):Option AV:=some (.dat (.int .i64) s2 none)
def quV (_n:Nat) (c0:UInt8):Option AV :=
 bif (decide (c0 < (32:UInt8))) then
 bif (c0==(32:UInt8)) then
 qf (bits .or .i64 (bits .or .i64 (0:Int) (1:Int)) (2:Int))
 else
 bif (c0==(9:UInt8)) then
 qf (bits .or .i64 (bits .or .i64 (0:Int) (1:Int)) (2:Int))
 else
 bif (decide ((48:UInt8)≤c0)) then
 bif (decide (c0≤(57:UInt8))) then
 qf (bits .or .i64 (bits .or .i64 (0:Int) (1:Int)) (648:Int))
 else
 bif (decide ((65:UInt8)≤c0)) then
 bif (decide (c0≤(90:UInt8))) then
 bif (decide (c0≤(90:UInt8))) then
 qf (bits .or .i64 (bits .or .i64 (0:Int) (1:Int)) (656:Int))
 else
 qf (bits .or .i64 (0:Int) (1:Int))
 else
 bif (decide ((97:UInt8)≤c0)) then
 bif (decide (c0≤(122:UInt8))) then
 qf (bits .or .i64 (bits .or .i64 (0:Int) (1:Int)) (656:Int))
 else
 qf (bits .or .i64 (0:Int) (1:Int))
 else
 qf (bits .or .i64 (0:Int) (1:Int))
 else
 bif (decide ((97:UInt8)≤c0)) then
 bif (decide (c0≤(122:UInt8))) then
 qf (bits .or .i64 (bits .or .i64 (0:Int) (1:Int)) (656:Int))
 else
 qf (bits .or .i64 (0:Int) (1:Int))
 else
 qf (bits .or .i64 (0:Int) (1:Int))
 else
 bif (decide ((65:UInt8)≤c0)) then
 bif (decide (c0≤(90:UInt8))) then
 bif (decide (c0≤(90:UInt8))) then
 qf (bits .or .i64 (bits .or .i64 (0:Int) (1:Int)) (656:Int))
 else
 qf (bits .or .i64 (0:Int) (1:Int))
 else
 bif (decide ((97:UInt8)≤c0)) then
 bif (decide (c0≤(122:UInt8))) then
 qf (bits .or .i64 (bits .or .i64 (0:Int) (1:Int)) (656:Int))
 else
 qf (bits .or .i64 (0:Int) (1:Int))
 else
 qf (bits .or .i64 (0:Int) (1:Int))
 else
 bif (decide ((97:UInt8)≤c0)) then
 bif (decide (c0≤(122:UInt8))) then
 qf (bits .or .i64 (bits .or .i64 (0:Int) (1:Int)) (656:Int))
 else
 qf (bits .or .i64 (0:Int) (1:Int))
 else
 qf (bits .or .i64 (0:Int) (1:Int))
 else
 bif (c0==(127:UInt8)) then
 bif (c0==(32:UInt8)) then
 qf (bits .or .i64 (bits .or .i64 (0:Int) (1:Int)) (2:Int))
 else
 bif (c0==(9:UInt8)) then
 qf (bits .or .i64 (bits .or .i64 (0:Int) (1:Int)) (2:Int))
 else
 bif (decide ((48:UInt8)≤c0)) then
 bif (decide (c0≤(57:UInt8))) then
 qf (bits .or .i64 (bits .or .i64 (0:Int) (1:Int)) (648:Int))
 else
 bif (decide ((65:UInt8)≤c0)) then
 bif (decide (c0≤(90:UInt8))) then
 bif (decide (c0≤(90:UInt8))) then
 qf (bits .or .i64 (bits .or .i64 (0:Int) (1:Int)) (656:Int))
 else
 qf (bits .or .i64 (0:Int) (1:Int))
 else
 bif (decide ((97:UInt8)≤c0)) then
 bif (decide (c0≤(122:UInt8))) then
 qf (bits .or .i64 (bits .or .i64 (0:Int) (1:Int)) (656:Int))
 else
 qf (bits .or .i64 (0:Int) (1:Int))
 else
 qf (bits .or .i64 (0:Int) (1:Int))
 else
 bif (decide ((97:UInt8)≤c0)) then
 bif (decide (c0≤(122:UInt8))) then
 qf (bits .or .i64 (bits .or .i64 (0:Int) (1:Int)) (656:Int))
 else
 qf (bits .or .i64 (0:Int) (1:Int))
 else
 qf (bits .or .i64 (0:Int) (1:Int))
 else
 bif (decide ((65:UInt8)≤c0)) then
 bif (decide (c0≤(90:UInt8))) then
 bif (decide (c0≤(90:UInt8))) then
 qf (bits .or .i64 (bits .or .i64 (0:Int) (1:Int)) (656:Int))
 else
 qf (bits .or .i64 (0:Int) (1:Int))
 else
 bif (decide ((97:UInt8)≤c0)) then
 bif (decide (c0≤(122:UInt8))) then
 qf (bits .or .i64 (bits .or .i64 (0:Int) (1:Int)) (656:Int))
 else
 qf (bits .or .i64 (0:Int) (1:Int))
 else
 qf (bits .or .i64 (0:Int) (1:Int))
 else
 bif (decide ((97:UInt8)≤c0)) then
 bif (decide (c0≤(122:UInt8))) then
 qf (bits .or .i64 (bits .or .i64 (0:Int) (1:Int)) (656:Int))
 else
 qf (bits .or .i64 (0:Int) (1:Int))
 else
 qf (bits .or .i64 (0:Int) (1:Int))
 else
 bif (c0==(32:UInt8)) then
 qf (bits .or .i64 (0:Int) (2:Int))
 else
 bif (c0==(9:UInt8)) then
 qf (bits .or .i64 (0:Int) (2:Int))
 else
 bif (decide ((48:UInt8)≤c0)) then
 bif (decide (c0≤(57:UInt8))) then
 qf (bits .or .i64 (0:Int) (648:Int))
 else
 bif (decide ((65:UInt8)≤c0)) then
 bif (decide (c0≤(90:UInt8))) then
 bif (decide (c0≤(90:UInt8))) then
 qf (bits .or .i64 (0:Int) (656:Int))
 else
 qf (0:Int)
 else
 bif (decide ((97:UInt8)≤c0)) then
 bif (decide (c0≤(122:UInt8))) then
 qf (bits .or .i64 (0:Int) (656:Int))
 else
 qf (0:Int)
 else
 qf (0:Int)
 else
 bif (decide ((97:UInt8)≤c0)) then
 bif (decide (c0≤(122:UInt8))) then
 qf (bits .or .i64 (0:Int) (656:Int))
 else
 qf (0:Int)
 else
 qf (0:Int)
 else
 bif (decide ((65:UInt8)≤c0)) then
 bif (decide (c0≤(90:UInt8))) then
 bif (decide (c0≤(90:UInt8))) then
 qf (bits .or .i64 (0:Int) (656:Int))
 else
 qf (0:Int)
 else
 bif (decide ((97:UInt8)≤c0)) then
 bif (decide (c0≤(122:UInt8))) then
 qf (bits .or .i64 (0:Int) (656:Int))
 else
 qf (0:Int)
 else
 qf (0:Int)
 else
 bif (decide ((97:UInt8)≤c0)) then
 bif (decide (c0≤(122:UInt8))) then
 qf (bits .or .i64 (0:Int) (656:Int))
 else
 qf (0:Int)
 else
 qf (0:Int)
def quW (s4:Int):Option AV:=some (.dat (.int .i64) s4 none)
def qAS (_n:Nat) (s0:List UInt8) (c1:UInt8):Option AV :=
 quW (z241 s0 c1)
def quX (s4:Int):Option AV:=some (.dat (.int .i64) s4 none)
def qAT (_n:Nat) (s0:List UInt8) (c1:UInt8):Option AV :=
 quX (z229 s0 c1)
def quY (s4:Bool):Option AV:=some (.dat .bool s4 none)
def qAU (_n:Nat) (s0:List UInt8) (c1:UInt8):Option AV :=
 quY (decide ((0:Int)≤(z192 s0 c1)))
def qU (s2:Int):Option AV:=some (.dat (.int .i64) s2 none)
def quZ (_n:Nat) (c0:UInt8):Option AV :=
 bif (decide (c0 < (33:UInt8))) then
 qU (z214 c0)
 else
 bif (decide ((126:UInt8) < c0)) then
 qU (z214 c0)
 else
 bif (z215 ([33,42,43,45,47]:List UInt8) c0) then
 bif (z215 ([43,47]:List UInt8) c0) then
 bif (z215 ([40,41,60,62,64,44,59,58,92,34,47,91,93,63,61]:List UInt8) c0) then
 qU (bits .or .i64 (bits .or .i64 (bits .or .i64 (bits .or .i64 (z214 c0) (4:Int)) (128:Int)) (512:Int)) (32:Int))
 else
 bif (!(z215 ([42,39,37]:List UInt8) c0)) then
 qU (bits .or .i64 (bits .or .i64 (bits .or .i64 (bits .or .i64 (bits .or .i64 (z214 c0) (4:Int)) (128:Int)) (512:Int)) (64:Int)) (256:Int))
 else
 qU (bits .or .i64 (bits .or .i64 (bits .or .i64 (bits .or .i64 (z214 c0) (4:Int)) (128:Int)) (512:Int)) (64:Int))
 else
 bif (z215 ([40,41,60,62,64,44,59,58,92,34,47,91,93,63,61]:List UInt8) c0) then
 qU (bits .or .i64 (bits .or .i64 (bits .or .i64 (z214 c0) (4:Int)) (128:Int)) (32:Int))
 else
 bif (!(z215 ([42,39,37]:List UInt8) c0)) then
 qU (bits .or .i64 (bits .or .i64 (bits .or .i64 (bits .or .i64 (z214 c0) (4:Int)) (128:Int)) (64:Int)) (256:Int))
 else
 qU (bits .or .i64 (bits .or .i64 (bits .or .i64 (z214 c0) (4:Int)) (128:Int)) (64:Int))
 else
 bif (z215 ([43,47]:List UInt8) c0) then
 bif (z215 ([40,41,60,62,64,44,59,58,92,34,47,91,93,63,61]:List UInt8) c0) then
 qU (bits .or .i64 (bits .or .i64 (bits .or .i64 (z214 c0) (4:Int)) (512:Int)) (32:Int))
 else
 bif (!(z215 ([42,39,37]:List UInt8) c0)) then
 qU (bits .or .i64 (bits .or .i64 (bits .or .i64 (bits .or .i64 (z214 c0) (4:Int)) (512:Int)) (64:Int)) (256:Int))
 else
 qU (bits .or .i64 (bits .or .i64 (bits .or .i64 (z214 c0) (4:Int)) (512:Int)) (64:Int))
 else
 bif (z215 ([40,41,60,62,64,44,59,58,92,34,47,91,93,63,61]:List UInt8) c0) then
 qU (bits .or .i64 (bits .or .i64 (z214 c0) (4:Int)) (32:Int))
 else
 bif (!(z215 ([42,39,37]:List UInt8) c0)) then
 qU (bits .or .i64 (bits .or .i64 (bits .or .i64 (z214 c0) (4:Int)) (64:Int)) (256:Int))
 else
 qU (bits .or .i64 (bits .or .i64 (z214 c0) (4:Int)) (64:Int))
def qva (s4:Bool):Option AV:=some (.dat .bool s4 none)
def qAV (_n:Nat) (c0:UInt8) (kinds1:Int):Option AV :=
 qva ((bits .and .i64 (z180 c0) kinds1) != (0:Int))
def qoN (s2:Int):Option AV:=some (.dat (.int .i64) s2 none)
def qCA (_n:Nat) (c0:UInt8):Option AV :=
 bif (c0==(32:UInt8)) then
 qoN (1:Int)
 else
 bif (z129 c0 (128:Int)) then
 qoN (1:Int)
 else
 qoN (3:Int)
def qAW (s2:Int):Option AV:=some (.dat (.int .i64) s2 none)
def qdY (k0:Int→Option AV) (next:Int→List UInt8→Int→Int→Option AV) (_n:Nat) (n3:Int) (s6:List UInt8) (s7:Int) (s8:Int):Option AV :=
 bif (decide (s8 < s7)) then
 bif ((decide ((0:Int)≤s8))&&(decide (s8 < (List.length s6:Nat)))) then
 next (IntKind.wrap .i64 (n3+(z84 (List.getD s6 (Int.toNat s8) (0:UInt8))))) s6 s7 (IntKind.wrap .i64 (s8+(1:Int)))
 else none
 else
 k0 n3
def qmt (k0:Int→Option AV):Nat→Int→List UInt8→Int→Int→Option AV
 | 0=>fun _ _ _ _=>none
 | n+1=>qdY k0 (qmt k0 n) n
def qgm (_n:Nat) (n3:Int):Option AV :=
 qAW n3
def qyI (n:Nat) (s0:List UInt8):Option AV :=
 qmt (qgm n) n (0:Int) s0 ((List.length s0:Nat):Int) (0:Int)
def qvb (s2:Int):Option AV:=some (.dat (.int .i64) s2 none)
def qCB (_n:Nat) (n0:Int):Option AV :=
 bif (decide (n0 < (1:Int))) then
 qvb (0:Int)
 else
 qvb (IntKind.wrap .i64 ((IntKind.wrap .i64 ((IntKind.wrap .i64 (Int.tdiv (IntKind.wrap .i64 (n0 - (1:Int))) (3:Int)))*(4:Int)))+(4:Int)))
def qhh (s4:Int) (s5:Bool):Option AV:=some (.tup [(.dat (.int .i64) s4 none),(.dat .bool s5 none)])
def qkB (_n:Nat) (s1:List UInt8):Option AV :=
 qhh (z87 ((List.length s1:Nat):Int)) true
def qhi (s4:Int) (s5:Bool):Option AV:=some (.tup [(.dat (.int .i64) s4 none),(.dat .bool s5 none)])
def qgn (_n:Nat) (s1:List UInt8):Option AV :=
 bif ((qgT s1)&&true) then
 qhi (z83 s1) true
 else none
def qhj (s4:Int) (s5:Bool):Option AV:=some (.tup [(.dat (.int .i64) s4 none),(.dat .bool s5 none)])
def qkC (_n:Nat) (_s1:List UInt8):Option AV :=
 qhj (0:Int) false
def qvc (s2:Int):Option AV:=some (.dat (.int .i64) s2 none)
def qAX (_n:Nat) (_x0:Unit):Option AV :=
 qvc (1:Int)
def qvd (s2:Int):Option AV:=some (.dat (.int .i64) s2 none)
def qAY (_n:Nat) (_x0:Unit):Option AV :=
 qvd (2:Int)
def qAZ (_n:Nat) (code0:Int):Option AV :=
 bif (code0==(z194 ())) then
 some (.iface 178 (.dat .unit () none))
 else
 bif (code0==(z195 ())) then
 some (.iface 179 (.dat .unit () none))
 else
 some .nilIface
def qaz (s6:Int) (s7:Int):Option AV:=some (.tup [(.dat (.int .i64) s6 none),(.dat (.int .i64) s7 none)])
def qve (_n:Nat) (charset0:Int) (code1:Int) (t2:List Int):Option AV :=
 bif ((qho charset0 t2)&&true) then
 bif (((z120 charset0 t2).2)==(10:Int)) then
 qaz (0:Int) ((z120 charset0 t2).2)
 else
 bif (code1==(1:Int)) then
 bif ((qey ((z120 charset0 t2).1))&&true) then
 bif (!true) then
 qaz (0:Int) (3:Int)
 else
 bif (((z120 charset0 t2).2) != (0:Int)) then
 qaz (0:Int) ((z120 charset0 t2).2)
 else
 qaz (z87 ((List.length ((z120 charset0 t2).1):Nat):Int)) (0:Int)
 else none
 else
 bif (code1==(2:Int)) then
 bif ((qey ((z120 charset0 t2).1))&&true) then
 bif (!true) then
 qaz (0:Int) (3:Int)
 else
 bif (((z120 charset0 t2).2) != (0:Int)) then
 qaz (0:Int) ((z120 charset0 t2).2)
 else
 qaz (z83 ((z120 charset0 t2).1)) (0:Int)
 else none
 else
 bif (!false) then
 qaz (0:Int) (3:Int)
 else
 bif (((z120 charset0 t2).2) != (0:Int)) then
 qaz (0:Int) ((z120 charset0 t2).2)
 else
 qaz (0:Int) (0:Int)
 else none
def qvf (s6:Int) (s7:Int):Option AV:=some (.tup [(.dat (.int .i64) s6 none),(.dat (.int .i64) s7 none)])
def qCC (_n:Nat) (charset0:Int) (code1:Int) (t2:List Int):Option AV :=
 bif ((qez charset0 code1 t2)&&true) then
 bif (((z112 charset0 code1 t2).2) != (0:Int)) then
 qvf (0:Int) ((z112 charset0 code1 t2).2)
 else
 qvf (IntKind.wrap .i64 (((z112 charset0 code1 t2).1)+(z17 charset0))) (0:Int)
 else none
def qiY (s8:Bool):Option AV:=some (.dat .bool s8 none)
def qvg (_n:Nat) (charset0:Int) (code1:Int) (t2:List Int) (room3:Int):Option AV :=
 bif ((qqN charset0 code1 t2)&&true) then
 bif (((z66 charset0 code1 t2).2)==(0:Int)) then
 bif (decide ((0:Int) < ((List.length t2:Nat):Int))) then
 qiY (decide (((z66 charset0 code1 t2).1)≤(bif (decide ((75:Int) < room3)) then (75:Int) else room3)))
 else
 qiY false
 else
 qiY false
 else none
def qvh (s8:Int):Option AV:=some (.dat (.int .i64) s8 none)
def qbZ (k0:Int→Option AV) (next:Int→Int→List Int→Int→Int→Option AV) (_n:Nat) (charset0:Int) (code1:Int) (t2:List Int) (room3:Int) (many9:Int):Option AV :=
 bif (decide (many9 < ((List.length t2:Nat):Int))) then
 bif (((decide ((0:Int)≤((0:Nat):Int)))&&(decide (((0:Nat):Int)≤(IntKind.wrap .i64 (many9+(1:Int))))))&&(decide ((IntKind.wrap .i64 (many9+(1:Int)))≤((List.length t2:Nat):Int)))) then
 bif ((qoo charset0 code1 (List.drop (Int.toNat ((0:Nat):Int)) (List.take (Int.toNat (IntKind.wrap .i64 (many9+(1:Int)))) t2)) room3)&&true) then
 bif (z156 charset0 code1 (List.drop (Int.toNat ((0:Nat):Int)) (List.take (Int.toNat (IntKind.wrap .i64 (many9+(1:Int)))) t2)) room3) then
 next charset0 code1 t2 room3 (IntKind.wrap .i64 (many9+(1:Int)))
 else
 k0 many9
 else none
 else none
 else
 k0 many9
def qgo (k0:Int→Option AV):Nat→Int→Int→List Int→Int→Int→Option AV
 | 0=>fun _ _ _ _ _=>none
 | n+1=>qbZ k0 (qgo k0 n) n
def qdn (_n:Nat) (many9:Int):Option AV :=
 qvh many9
def qoO (n:Nat) (charset0:Int) (code1:Int) (t2:List Int) (room3:Int):Option AV :=
 qgo (qdn n) n charset0 code1 t2 room3 (0:Int)
def qdZ (V:Sigma Inv) (xv:Den V.1) (s29:List Int) (s30:Int) (s31:Int) (s32:Int):Option AV:=some (.tup [(.tup []),(.abs V.1 V.2 xv),(.pbox (.leaf (.sl (.int .i32))) s29 none),(.pbox (.leaf (.int .i64)) s30 none),(.pbox (.leaf (.int .i64)) s31 none),(.pbox (.leaf (.int .i64)) s32 none)])
def qeW (V:Sigma Inv) (ret:Den V.1→List Int→Int→Int→Int→Option AV) (k0:Den V.1→List Int→Int→Int→Int→Option AV) (next:Den V.1→List Int→Int→Int→Int→Option AV) (_n:Nat) (xv:Den V.1) (s29:List Int) (s30:Int) (s31:Int) (s32:Int):Option AV :=
 bif (decide ((0:Int) < ((List.length s29:Nat):Int))) then
 bif ((qop s30 s31 s29 s32)&&true) then
 bif (((decide ((0:Int)≤((0:Nat):Int)))&&(decide (((0:Nat):Int)≤(z114 s30 s31 s29 s32))))&&(decide ((z114 s30 s31 s29 s32)≤((List.length s29:Nat):Int)))) then
 bif (V.2.spec xv [⟨(.sl (.int .i32)),(List.drop (Int.toNat ((0:Nat):Int)) (List.take (Int.toNat (z114 s30 s31 s29 s32)) s29))⟩]).1 then
 bif (!(V.2.spec xv [⟨(.sl (.int .i32)),(List.drop (Int.toNat ((0:Nat):Int)) (List.take (Int.toNat (z114 s30 s31 s29 s32)) s29))⟩]).2.1) then
 ret (V.2.spec xv [⟨(.sl (.int .i32)),(List.drop (Int.toNat ((0:Nat):Int)) (List.take (Int.toNat (z114 s30 s31 s29 s32)) s29))⟩]).2.2 s29 s30 s31 s32
 else
 bif ((z114 s30 s31 s29 s32)==(0:Int)) then
 ret (V.2.spec xv [⟨(.sl (.int .i32)),(List.drop (Int.toNat ((0:Nat):Int)) (List.take (Int.toNat (z114 s30 s31 s29 s32)) s29))⟩]).2.2 s29 s30 s31 s32
 else
 bif (((decide ((0:Int)≤(z114 s30 s31 s29 s32)))&&(decide ((z114 s30 s31 s29 s32)≤((List.length s29:Nat):Int))))&&(decide (((List.length s29:Nat):Int)≤((List.length s29:Nat):Int)))) then
 next (V.2.spec xv [⟨(.sl (.int .i32)),(List.drop (Int.toNat ((0:Nat):Int)) (List.take (Int.toNat (z114 s30 s31 s29 s32)) s29))⟩]).2.2 (List.drop (Int.toNat (z114 s30 s31 s29 s32)) (List.take (Int.toNat ((List.length s29:Nat):Int)) s29)) s30 s31 (75:Int)
 else none
 else none
 else none
 else none
 else
 k0 xv s29 s30 s31 s32
def qgp (V:Sigma Inv) (ret:Den V.1→List Int→Int→Int→Int→Option AV) (k0:Den V.1→List Int→Int→Int→Int→Option AV):Nat→Den V.1→List Int→Int→Int→Int→Option AV
 | 0=>fun _ _ _ _ _=>none
 | n+1=>(qeW V) ret k0 ((qgp V) ret k0 n) n
def qdo (V:Sigma Inv) (_n:Nat) (xv:Den V.1) (s29:List Int) (s30:Int) (s31:Int) (s32:Int):Option AV :=
 (qdZ V) xv s29 s30 s31 s32
def qvi (V:Sigma Inv) (n:Nat) (x0:Den V.1) (x1:List Int) (x2:Int) (x3:Int) (x4:Int):Option AV :=
 (qgp V) (qdZ V) ((qdo V) n) n x0 x1 x2 x3 x4
def qoP (s8:List (List Int)) (s9:Int):Option AV:=some (.tup [(.dat (.sl (.sl (.int .i32))) s8 none),(.dat (.int .i64) s9 none)])
def qcy (n:Nat) (x:Bool×(List (List Int))×Int×(List (List Int))×Unit) (y0:List Int):Bool×Bool×(Bool×(List (List Int))×Int×(List (List Int))×Unit) :=
 bif x.1 then (false,false,x) else yfin (.pair (.sl (.sl (.int .i32))) (.pair (.int .i64) (.pair (.sl (.sl (.int .i32))) .unit))) x (
 bif (((List.length y0:Nat):Int)==(0:Int)) then
 some (.dat (.pair .bool (.pair (.sl (.sl (.int .i32))) (.pair (.int .i64) (.pair (.sl (.sl (.int .i32))) .unit)))) (true,(([]:List (List Int)),((12:Int),(x.2.2.2.1,())))) none)
 else
 bif ((qCc y0)&&true) then
 bif (decide (List.length x.2.2.2.1+List.length ([(z68 y0)]:List (List Int))≤room)) then
 some (.dat (.pair .bool (.pair (.sl (.sl (.int .i32))) (.pair (.int .i64) (.pair (.sl (.sl (.int .i32))) .unit)))) (false,(x.2.1,(x.2.2.1,((x.2.2.2.1++([(z68 y0)]:List (List Int))),())))) none)
 else none
 else none)
def qCD (n:Nat) (charset0:Int) (code1:Int) (t2:List Int) (first3:Int):Option AV :=
 bif ((qqN charset0 code1 t2)&&true) then
 bif (((z66 charset0 code1 t2).2) != (0:Int)) then
 qoP ([]:List (List Int)) ((z66 charset0 code1 t2).2)
 else
 bif (z113 (qcy n) (false,(([]:List (List Int)),((0:Int),(([]:List (List Int)),())))) t2 charset0 code1 first3).1 then
 bif (z113 (qcy n) (false,(([]:List (List Int)),((0:Int),(([]:List (List Int)),())))) t2 charset0 code1 first3).2.1.1 then
 qoP (z113 (qcy n) (false,(([]:List (List Int)),((0:Int),(([]:List (List Int)),())))) t2 charset0 code1 first3).2.1.2.1 (z113 (qcy n) (false,(([]:List (List Int)),((0:Int),(([]:List (List Int)),())))) t2 charset0 code1 first3).2.1.2.2.1
 else
 qoP (z113 (qcy n) (false,(([]:List (List Int)),((0:Int),(([]:List (List Int)),())))) t2 charset0 code1 first3).2.1.2.2.2.1 (0:Int)
 else none
 else none
def qmu (s2:Int):Option AV:=some (.dat (.int .i64) s2 none)
def qca (k0:Int→Option AV) (next:Int→Int→Int→Option AV) (_n:Nat) (c0:Int) (s3:Int) (s5:Int):Option AV :=
 bif (decide (s5 < (5:Int))) then
 bif (z157 (IntKind.wrap .i64 (s5+(1:Int))) c0) then
 bif (decide ((0:Int)≤(IntKind.wrap .i64 (s5+(1:Int))))) then
 next c0 (bits .or .i64 s3 (IntKind.wrap .i64 ((1:Int)*2 ^ (min (Int.toNat (IntKind.wrap .i64 (s5+(1:Int)))) (IntKind.bits .i64))))) (IntKind.wrap .i64 (s5+(1:Int)))
 else none
 else
 next c0 s3 (IntKind.wrap .i64 (s5+(1:Int)))
 else
 k0 s3
def qdp (k0:Int→Option AV):Nat→Int→Int→Int→Option AV
 | 0=>fun _ _ _=>none
 | n+1=>qca k0 (qdp k0 n) n
def qba (_n:Nat) (s3:Int):Option AV :=
 qmu s3
def qoQ (n:Nat) (c0:Int):Option AV :=
 qdp (qba n) n c0 (0:Int) (0:Int)
def qvj (s2:Int):Option AV:=some (.dat (.int .i64) s2 none)
def qvk (_n:Nat) (x0:Int):Option AV :=
 bif ((quk x0)&&true) then
 qvj (z201 x0)
 else none
def qmv (s2:Int):Option AV:=some (.dat (.int .i64) s2 none)
def qvl (_n:Nat) (sets0:Int):Option AV :=
 bif (sets0==(0:Int)) then
 qmv (0:Int)
 else
 bif ((qor (IntKind.wrap .u64 sets0))&&true) then
 qmv (z158 (IntKind.wrap .u64 sets0))
 else none
def qvm (s2:Int) (s3:Int):Option AV:=some (.tup [(.dat (.int .i64) s2 none),(.dat (.int .i64) s3 none)])
def qea (k0:Int→Option AV) (next:Int→List Int→Int→Int→Option AV) (_n:Nat) (all4:Int) (s7:List Int) (s8:Int) (s9:Int):Option AV :=
 bif (decide (s9 < s8)) then
 bif ((decide ((0:Int)≤s9))&&(decide (s9 < (List.length s7:Nat)))) then
 next (bits .and .i64 all4 (z116 (List.getD s7 (Int.toNat s9) (0:Int)))) s7 s8 (IntKind.wrap .i64 (s9+(1:Int)))
 else none
 else
 k0 all4
def qmw (k0:Int→Option AV):Nat→Int→List Int→Int→Int→Option AV
 | 0=>fun _ _ _ _=>none
 | n+1=>qea k0 (qmw k0 n) n
def qcz (_n:Nat) (all4:Int):Option AV :=
 bif (all4==(0:Int)) then
 qvm (0:Int) (7:Int)
 else
 bif ((qos all4)&&true) then
 qvm (z117 all4) (0:Int)
 else none
def qyJ (n:Nat) (t0:List Int):Option AV :=
 qmw (qcz n) n (62:Int) t0 ((List.length t0:Nat):Int) (0:Int)
def qvn (s6:Int):Option AV:=some (.dat (.int .i64) s6 none)
def qvo (_n:Nat) (charset0:Int) (code1:Int) (t2:List Int):Option AV :=
 bif ((qez charset0 code1 t2)&&true) then
 qvn ((z112 charset0 code1 t2).1)
 else none
def qvp (s4:Int):Option AV:=some (.dat (.int .i64) s4 none)
def qvq (_n:Nat) (charset0:Int) (t1:List Int):Option AV :=
 bif ((qhc charset0 (1:Int) t1)&&true) then
 bif ((qhc charset0 (2:Int) t1)&&true) then
 qvp (IntKind.wrap .i64 ((z159 charset0 (1:Int) t1) - (z159 charset0 (2:Int) t1)))
 else none
 else none
def qoR (s4:Int) (s5:Int):Option AV:=some (.tup [(.dat (.int .i64) s4 none),(.dat (.int .i64) s5 none)])
def qCE (_n:Nat) (charset0:Int) (t1:List Int):Option AV :=
 bif ((qez charset0 (1:Int) t1)&&true) then
 bif (((z112 charset0 (1:Int) t1).2) != (0:Int)) then
 qoR (0:Int) ((z112 charset0 (1:Int) t1).2)
 else
 bif ((qon charset0 t1)&&true) then
 bif (decide ((0:Int)≤(z118 charset0 t1))) then
 qoR (2:Int) (0:Int)
 else
 qoR (1:Int) (0:Int)
 else none
 else none
def qvr (s2:Int) (s3:Int) (s4:Int):Option AV:=some (.tup [(.dat (.int .i64) s2 none),(.dat (.int .i64) s3 none),(.dat (.int .i64) s4 none)])
def qCF (_n:Nat) (t0:List Int):Option AV :=
 bif ((qyn t0)&&true) then
 bif (((z71 t0).2) != (0:Int)) then
 qvr (0:Int) (0:Int) ((z71 t0).2)
 else
 bif ((qyk ((z71 t0).1) t0)&&true) then
 qvr ((z71 t0).1) ((z72 ((z71 t0).1) t0).1) ((z72 ((z71 t0).1) t0).2)
 else none
 else none
def qvs (s2:UInt8):Option AV:=some (.dat .byte s2 none)
def qvt (_n:Nat) (n0:Int):Option AV :=
 bif ((decide ((0:Int)≤(bits .and .i64 n0 (15:Int))))&&(decide ((bits .and .i64 n0 (15:Int)) < (List.length ([48,49,50,51,52,53,54,55,56,57,65,66,67,68,69,70]:List UInt8):Nat)))) then
 qvs (List.getD ([48,49,50,51,52,53,54,55,56,57,65,66,67,68,69,70]:List UInt8) (Int.toNat (bits .and .i64 n0 (15:Int))) (0:UInt8))
 else none
def qvu (s2:List UInt8):Option AV:=some (.dat (.sl .byte) s2 (some (2,5)))
def qvv (_n:Nat) (c0:UInt8):Option AV :=
 bif ((qcl (IntKind.wrap .i64 ((UInt8.toNat (UInt8.ofNat (UInt8.toNat c0 / 2 ^ (min (Int.toNat (4:Int)) 8))):Nat):Int)))&&true) then
 bif ((qcl (IntKind.wrap .i64 ((UInt8.toNat c0:Nat):Int)))&&true) then
 qvu ([(z181 (IntKind.wrap .i64 ((UInt8.toNat (UInt8.ofNat (UInt8.toNat c0 / 2 ^ (min (Int.toNat (4:Int)) 8))):Nat):Int))),(z181 (IntKind.wrap .i64 ((UInt8.toNat c0:Nat):Int)))]:List UInt8)
 else none
 else none
def qBa (s6:List UInt8):Option AV:=some (.dat (.sl .byte) s6 (some (6,5)))
def qCG (_n:Nat) (b0:List UInt8) (sign1:UInt8) (c2:UInt8):Option AV :=
 bif ((qws b0)&&true) then
 bif (decide (List.length (z38 b0)+List.length ([sign1]:List UInt8)≤room)) then
 bif (decide (List.length ((z38 b0)++([sign1]:List UInt8))+List.length (z130 c2)≤room)) then
 qBa (((z38 b0)++([sign1]:List UInt8))++(z130 c2))
 else none
 else none
 else none
def qkD (s2:List UInt8):Option AV:=some (.dat (.sl .byte) s2 (some (2,5)))
def qeb (k0:List UInt8→Option AV) (next:List UInt8→List UInt8→Int→Int→Option AV) (_n:Nat) (out3:List UInt8) (s9:List UInt8) (s10:Int) (s11:Int):Option AV :=
 bif (decide (s11 < s10)) then
 bif ((decide ((0:Int)≤s11))&&(decide (s11 < (List.length s9:Nat)))) then
 bif ((List.getD s9 (Int.toNat s11) (0:UInt8))==(32:UInt8)) then
 bif (decide (List.length out3+List.length ([(95:UInt8)]:List UInt8)≤room)) then
 next (out3++([(95:UInt8)]:List UInt8)) s9 s10 (IntKind.wrap .i64 (s11+(1:Int)))
 else none
 else
 bif ((z84 (List.getD s9 (Int.toNat s11) (0:UInt8)))==(1:Int)) then
 bif (decide (List.length out3+List.length ([(List.getD s9 (Int.toNat s11) (0:UInt8))]:List UInt8)≤room)) then
 next (out3++([(List.getD s9 (Int.toNat s11) (0:UInt8))]:List UInt8)) s9 s10 (IntKind.wrap .i64 (s11+(1:Int)))
 else none
 else
 bif ((qAv out3 (61:UInt8) (List.getD s9 (Int.toNat s11) (0:UInt8)))&&true) then
 next (z85 out3 (61:UInt8) (List.getD s9 (Int.toNat s11) (0:UInt8))) s9 s10 (IntKind.wrap .i64 (s11+(1:Int)))
 else none
 else none
 else
 k0 out3
def qmx (k0:List UInt8→Option AV):Nat→List UInt8→List UInt8→Int→Int→Option AV
 | 0=>fun _ _ _ _=>none
 | n+1=>qeb k0 (qmx k0 n) n
def qgq (_n:Nat) (out3:List UInt8):Option AV :=
 qkD out3
def qyK (n:Nat) (s0:List UInt8):Option AV :=
 bif ((qgT s0)&&true) then
 bif (((decide ((0:Int)≤(0:Int)))&&(decide ((0:Int)≤(z83 s0))))&&(decide ((z83 s0)≤(room:Int)))) then
 qmx (qgq n) n (List.replicate (Int.toNat (0:Int)) (0:UInt8)) s0 ((List.length s0:Nat):Int) (0:Int)
 else none
 else none
def qvw (s2:UInt8):Option AV:=some (.dat .byte s2 none)
def qvx (_n:Nat) (n0:Int):Option AV :=
 bif ((decide ((0:Int)≤(bits .and .i64 n0 (63:Int))))&&(decide ((bits .and .i64 n0 (63:Int)) < (List.length ([65,66,67,68,69,70,71,72,73,74,75,76,77,78,79,80,81,82,83,84,85,86,87,88,89,90,97,98,99,100,101,102,103,104,105,106,107,108,109,110,111,112,113,114,115,116,117,118,119,120,121,122,48,49,50,51,52,53,54,55,56,57,43,47]:List UInt8):Nat)))) then
 qvw (List.getD ([65,66,67,68,69,70,71,72,73,74,75,76,77,78,79,80,81,82,83,84,85,86,87,88,89,90,97,98,99,100,101,102,103,104,105,106,107,108,109,110,111,112,113,114,115,116,117,118,119,120,121,122,48,49,50,51,52,53,54,55,56,57,43,47]:List UInt8) (Int.toNat (bits .and .i64 n0 (63:Int))) (0:UInt8))
 else none
def qkE (s2:List UInt8):Option AV:=some (.dat (.sl .byte) s2 (some (2,5)))
def qvy (k2:List UInt8→Int→Int→List UInt8→Int→Int→Option AV) (next:List UInt8→Int→Int→List UInt8→Int→Int→Option AV) (_n:Nat) (out3:List UInt8) (held4:Int) (many5:Int) (s8:List UInt8) (s9:Int) (s10:Int):Option AV :=
 bif (decide ((6:Int)≤many5)) then
 bif (decide ((0:Int)≤(IntKind.wrap .i64 (many5 - (6:Int))))) then
 bif (decide (List.length out3+List.length ([(z132 (Int.fdiv held4 (2 ^ (min (Int.toNat (IntKind.wrap .i64 (many5 - (6:Int)))) (IntKind.bits .i64)))))]:List UInt8)≤room)) then
 next (out3++([(z132 (Int.fdiv held4 (2 ^ (min (Int.toNat (IntKind.wrap .i64 (many5 - (6:Int)))) (IntKind.bits .i64)))))]:List UInt8)) held4 (IntKind.wrap .i64 (many5 - (6:Int))) s8 s9 s10
 else none
 else none
 else
 k2 out3 held4 many5 s8 s9 s10
def qec (k2:List UInt8→Int→Int→List UInt8→Int→Int→Option AV):Nat→List UInt8→Int→Int→List UInt8→Int→Int→Option AV
 | 0=>fun _ _ _ _ _ _=>none
 | n+1=>qvy k2 (qec k2 n) n
def qbz (_k0:List UInt8→Int→Int→Option AV) (next:List UInt8→Int→Int→List UInt8→Int→Int→Option AV) (_n:Nat) (out3:List UInt8) (held4:Int) (many5:Int) (s8:List UInt8) (s9:Int) (s10:Int):Option AV :=
 bif (decide ((0:Int)≤many5)) then
 next out3 (bits .and .i64 held4 (IntKind.wrap .i64 ((IntKind.wrap .i64 ((1:Int)*2 ^ (min (Int.toNat many5) (IntKind.bits .i64)))) - (1:Int)))) many5 s8 s9 (IntKind.wrap .i64 (s10+(1:Int)))
 else none
def qcA (k0:List UInt8→Int→Int→Option AV) (next:List UInt8→Int→Int→List UInt8→Int→Int→Option AV) (n:Nat) (out3:List UInt8) (held4:Int) (many5:Int) (s8:List UInt8) (s9:Int) (s10:Int):Option AV :=
 bif (decide (s10 < s9)) then
 bif ((decide ((0:Int)≤s10))&&(decide (s10 < (List.length s8:Nat)))) then
 qec (qbz k0 next n) n out3 (bits .or .i64 (IntKind.wrap .i64 (held4*2 ^ (min (Int.toNat (8:Int)) (IntKind.bits .i64)))) (IntKind.wrap .i64 ((UInt8.toNat (List.getD s8 (Int.toNat s10) (0:UInt8)):Nat):Int))) (IntKind.wrap .i64 (many5+(8:Int))) s8 s9 s10
 else none
 else
 k0 out3 held4 many5
def qmy (k0:List UInt8→Int→Int→Option AV):Nat→List UInt8→Int→Int→List UInt8→Int→Int→Option AV
 | 0=>fun _ _ _ _ _ _=>none
 | n+1=>qcA k0 (qmy k0 n) n
def qcB (_n:Nat) (out3:List UInt8) (held4:Int) (many5:Int):Option AV :=
 bif (decide ((0:Int) < many5)) then
 bif (decide ((0:Int)≤(IntKind.wrap .i64 ((6:Int) - many5)))) then
 bif (decide (List.length out3+List.length ([(z132 (IntKind.wrap .i64 (held4*2 ^ (min (Int.toNat (IntKind.wrap .i64 ((6:Int) - many5))) (IntKind.bits .i64)))))]:List UInt8)≤room)) then
 qkE (out3++([(z132 (IntKind.wrap .i64 (held4*2 ^ (min (Int.toNat (IntKind.wrap .i64 ((6:Int) - many5))) (IntKind.bits .i64)))))]:List UInt8))
 else none
 else none
 else
 qkE out3
def qyL (n:Nat) (s0:List UInt8):Option AV :=
 qmy (qcB n) n ([]:List UInt8) (0:Int) (0:Int) s0 ((List.length s0:Nat):Int) (0:Int)
def qeA (s6:List UInt8) (s7:Int):Option AV:=some (.tup [(.dat (.sl .byte) s6 none),(.dat (.int .i64) s7 none)])
def qCH (_n:Nat) (charset0:Int) (code1:Int) (s2:List UInt8):Option AV :=
 bif (!(z44 charset0)) then
 qeA ([]:List UInt8) (10:Int)
 else
 bif ((z45 code1)==([]:List UInt8)) then
 qeA ([]:List UInt8) (3:Int)
 else
 bif (((List.length s2:Nat):Int)==(0:Int)) then
 qeA ([]:List UInt8) (3:Int)
 else
 bif ((qAx s2)&&true) then
 bif (code1==(1:Int)) then
 bif ((qDO s2)&&true) then
 bif (decide (List.length (z48 charset0 code1)≤room)) then
 bif (decide (List.length (z48 charset0 code1)+List.length (z47 s2)≤room)) then
 bif (decide (List.length ((z48 charset0 code1)++(z47 s2))+List.length ([63,61]:List UInt8)≤room)) then
 bif (decide ((75:Int) < ((List.length (((z48 charset0 code1)++(z47 s2))++([63,61]:List UInt8)):Nat):Int))) then
 qeA ([]:List UInt8) (12:Int)
 else
 qeA (((z48 charset0 code1)++(z47 s2))++([63,61]:List UInt8)) (0:Int)
 else none
 else none
 else none
 else none
 else
 bif (decide (List.length (z48 charset0 code1)≤room)) then
 bif (decide (List.length (z48 charset0 code1)+List.length (z46 s2)≤room)) then
 bif (decide (List.length ((z48 charset0 code1)++(z46 s2))+List.length ([63,61]:List UInt8)≤room)) then
 bif (decide ((75:Int) < ((List.length (((z48 charset0 code1)++(z46 s2))++([63,61]:List UInt8)):Nat):Int))) then
 qeA ([]:List UInt8) (12:Int)
 else
 qeA (((z48 charset0 code1)++(z46 s2))++([63,61]:List UInt8)) (0:Int)
 else none
 else none
 else none
 else none
def qvz (s6:List UInt8) (s7:Int):Option AV:=some (.tup [(.dat (.sl .byte) s6 none),(.dat (.int .i64) s7 none)])
def qCI (_n:Nat) (charset0:Int) (code1:Int) (p2:List Int):Option AV :=
 bif ((qho charset0 p2)&&true) then
 bif (((z120 charset0 p2).2) != (0:Int)) then
 qvz ([]:List UInt8) ((z120 charset0 p2).2)
 else
 bif ((qAy charset0 code1 ((z120 charset0 p2).1))&&true) then
 qvz ((z15 charset0 code1 ((z120 charset0 p2).1)).1) ((z15 charset0 code1 ((z120 charset0 p2).1)).2)
 else none
 else none
def qbA (s4:List (List UInt8)) (s5:Int):Option AV:=some (.tup [(.dat (.sl (.sl .byte)) s4 none),(.dat (.int .i64) s5 none)])
def qed (ret:List (List UInt8)→Int→Option AV) (k0:List (List UInt8)→Option AV) (next:Int→Int→List (List UInt8)→List (List Int)→Int→Int→Option AV) (_n:Nat) (charset6:Int) (code7:Int) (out10:List (List UInt8)) (s35:List (List Int)) (s36:Int) (s37:Int):Option AV :=
 bif (decide (s37 < s36)) then
 bif ((decide ((0:Int)≤s37))&&(decide (s37 < (List.length s35:Nat)))) then
 bif ((qys charset6 code7 (List.getD s35 (Int.toNat s37) ([]:List Int)))&&true) then
 bif (((z75 charset6 code7 (List.getD s35 (Int.toNat s37) ([]:List Int))).2) != (0:Int)) then
 ret ([]:List (List UInt8)) ((z75 charset6 code7 (List.getD s35 (Int.toNat s37) ([]:List Int))).2)
 else
 bif (decide (List.length out10+List.length ([((z75 charset6 code7 (List.getD s35 (Int.toNat s37) ([]:List Int))).1)]:List (List UInt8))≤room)) then
 next charset6 code7 (out10++([((z75 charset6 code7 (List.getD s35 (Int.toNat s37) ([]:List Int))).1)]:List (List UInt8))) s35 s36 (IntKind.wrap .i64 (s37+(1:Int)))
 else none
 else none
 else none
 else
 k0 out10
def qmz (ret:List (List UInt8)→Int→Option AV) (k0:List (List UInt8)→Option AV):Nat→Int→Int→List (List UInt8)→List (List Int)→Int→Int→Option AV
 | 0=>fun _ _ _ _ _ _=>none
 | n+1=>qed ret k0 (qmz ret k0 n) n
def qgr (_n:Nat) (out10:List (List UInt8)):Option AV :=
 qbA out10 (0:Int)
def qyM (n:Nat) (t0:List Int) (first1:Int):Option AV :=
 bif ((qqQ t0)&&true) then
 bif (((z30 t0).2.2) != (0:Int)) then
 qbA ([]:List (List UInt8)) ((z30 t0).2.2)
 else
 bif ((qqP ((z30 t0).1) ((z30 t0).2.1) t0 first1)&&true) then
 bif (((z28 ((z30 t0).1) ((z30 t0).2.1) t0 first1).2) != (0:Int)) then
 qbA ([]:List (List UInt8)) ((z28 ((z30 t0).1) ((z30 t0).2.1) t0 first1).2)
 else
 qmz qbA (qgr n) n ((z30 t0).1) ((z30 t0).2.1) ([]:List (List UInt8)) ((z28 ((z30 t0).1) ((z30 t0).2.1) t0 first1).1) ((List.length ((z28 ((z30 t0).1) ((z30 t0).2.1) t0 first1).1):Nat):Int) (0:Int)
 else none
 else none
def qvA (s4:List UInt8) (s5:Int):Option AV:=some (.tup [(.dat (.sl .byte) s4 none),(.dat (.int .i64) s5 none)])
def qCJ (_n:Nat) (t0:List Int) (first1:Int):Option AV :=
 bif ((qmm t0 first1)&&true) then
 bif (((z32 t0 first1).2) != (0:Int)) then
 qvA ([]:List UInt8) ((z32 t0 first1).2)
 else
 bif ((qqR ((z32 t0 first1).1) ([(13:UInt8),(10:UInt8),(32:UInt8)]:List UInt8))&&true) then
 qvA (z77 ((z32 t0 first1).1) ([(13:UInt8),(10:UInt8),(32:UInt8)]:List UInt8)) (0:Int)
 else none
 else none
def qBb (s4:Int):Option AV:=some (.dat (.int .i64) s4 none)
def qCK (_n:Nat) (t0:List Int) (first1:Int):Option AV :=
 bif ((qmm t0 first1)&&true) then
 qBb ((List.length ((z32 t0 first1).1):Nat):Int)
 else none
def qkF (s0:Bool):Option AV:=some (.dat .bool s0 none)
def qCL (_n:Nat):Option AV :=
 bif ((qCd ([(233:Int)]:List Int) (75:Int))&&true) then
 bif ((qmm ([(233:Int)]:List Int) (10:Int))&&true) then
 bif (((z34 ([(233:Int)]:List Int) (75:Int)).1)==([61,63,105,115,111,45,56,56,53,57,45,49,63,81,63,61,69,57,63,61]:List UInt8)) then
 bif (((z34 ([(233:Int)]:List Int) (75:Int)).2)==(0:Int)) then
 bif (((z32 ([(233:Int)]:List Int) (10:Int)).2)==(12:Int)) then
 bif ((qCe ([(233:Int)]:List Int) (75:Int))&&true) then
 qkF ((z36 ([(233:Int)]:List Int) (75:Int))==(1:Int))
 else none
 else
 qkF false
 else
 qkF false
 else
 qkF false
 else none
 else none
def qgs (s2:List (List UInt8)):Option AV:=some (.dat (.sl .str) s2 (some (2,9)))
def qCM (_n:Nat) (n0:Int):Option AV :=
 bif (n0==(1:Int)) then
 qgs ([([117,115,45,97,115,99,105,105]:List UInt8),([97,115,99,105,105]:List UInt8),([97,110,115,105,95,120,51,46,52,45,49,57,54,56]:List UInt8),([105,115,111,54,52,54,45,117,115]:List UInt8)]:List (List UInt8))
 else
 bif (n0==(2:Int)) then
 qgs ([([105,115,111,45,56,56,53,57,45,49]:List UInt8),([105,115,111,95,56,56,53,57,45,49]:List UInt8),([108,97,116,105,110,49]:List UInt8),([108,49]:List UInt8)]:List (List UInt8))
 else
 bif (n0==(3:Int)) then
 qgs ([([105,115,111,45,56,56,53,57,45,49,53]:List UInt8),([105,115,111,95,56,56,53,57,45,49,53]:List UInt8),([108,97,116,105,110,45,57]:List UInt8)]:List (List UInt8))
 else
 bif (n0==(4:Int)) then
 qgs ([([119,105,110,100,111,119,115,45,49,50,53,50]:List UInt8),([99,112,49,50,53,50]:List UInt8)]:List (List UInt8))
 else
 bif (n0==(5:Int)) then
 qgs ([([117,116,102,45,56]:List UInt8),([117,116,102,56]:List UInt8)]:List (List UInt8))
 else
 qgs ([]:List (List UInt8))
def qvB (s2:List UInt8):Option AV:=some (.dat .str s2 none)
def qCN (_n:Nat) (n0:Int):Option AV :=
 bif (((List.length (z92 n0):Nat):Int)==(0:Int)) then
 qvB ([]:List UInt8)
 else
 bif ((decide ((0:Int)≤(0:Int)))&&(decide ((0:Int) < (List.length (z92 n0):Nat)))) then
 qvB (List.getD (z92 n0) (Int.toNat (0:Int)) ([]:List UInt8))
 else none
def qoS (s2:Int):Option AV:=some (.dat (.int .i64) s2 none)
def qCO (_n:Nat) (charset0:Int):Option AV :=
 bif (decide (charset0 < (1:Int))) then
 qoS (0:Int)
 else
 bif (decide ((5:Int) < charset0)) then
 qoS (0:Int)
 else
 qoS (IntKind.wrap .i64 ((7:Int)+((List.length (z51 charset0):Nat):Int)))
def qvC (s2:List Int):Option AV:=some (.dat (.sl (.int .i64)) s2 (some (2,3)))
def qcb (k2:List UInt8→List Int→Int→Option AV) (next:List UInt8→List Int→Int→Int→Option AV) (_n:Nat) (s0:List UInt8) (out3:List Int) (i4:Int) (k5:Int):Option AV :=
 bif (decide ((0:Int)≤k5)) then
 bif ((decide ((0:Int)≤i4))&&(decide (i4 < (List.length s0:Nat)))) then
 bif (decide ((0:Int)≤k5)) then
 bif (decide (List.length out3+List.length ([(Int.tmod (IntKind.wrap .i64 ((UInt8.toNat (UInt8.ofNat (UInt8.toNat (List.getD s0 (Int.toNat i4) (0:UInt8)) / 2 ^ (min (Int.toNat k5) 8))):Nat):Int)) (2:Int))]:List Int)≤room)) then
 next s0 (out3++([(Int.tmod (IntKind.wrap .i64 ((UInt8.toNat (UInt8.ofNat (UInt8.toNat (List.getD s0 (Int.toNat i4) (0:UInt8)) / 2 ^ (min (Int.toNat k5) 8))):Nat):Int)) (2:Int))]:List Int)) i4 (IntKind.wrap .i64 (k5 - (1:Int)))
 else none
 else none
 else none
 else
 k2 s0 out3 i4
def qdq (k2:List UInt8→List Int→Int→Option AV):Nat→List UInt8→List Int→Int→Int→Option AV
 | 0=>fun _ _ _ _=>none
 | n+1=>qcb k2 (qdq k2 n) n
def qdr (_k0:List Int→Option AV) (next:List UInt8→List Int→Int→Option AV) (_n:Nat) (s0:List UInt8) (out3:List Int) (i4:Int):Option AV :=
 next s0 out3 (IntKind.wrap .i64 (i4+(1:Int)))
def qbb (k0:List Int→Option AV) (next:List UInt8→List Int→Int→Option AV) (n:Nat) (s0:List UInt8) (out3:List Int) (i4:Int):Option AV :=
 bif (decide (i4 < ((List.length s0:Nat):Int))) then
 qdq (qdr k0 next n) n s0 out3 i4 (7:Int)
 else
 k0 out3
def qgt (k0:List Int→Option AV):Nat→List UInt8→List Int→Int→Option AV
 | 0=>fun _ _ _=>none
 | n+1=>qbb k0 (qgt k0 n) n
def qds (_n:Nat) (out3:List Int):Option AV :=
 qvC out3
def qoT (n:Nat) (s0:List UInt8):Option AV :=
 qgt (qds n) n s0 ([]:List Int) (0:Int)
def qcC (s2:UInt8):Option AV:=some (.dat .byte s2 none)
def qvD (_n:Nat) (n0:Int):Option AV :=
 bif (decide ((Int.tmod (IntKind.wrap .i64 ((Int.tmod n0 (64:Int))+(64:Int))) (64:Int)) < (26:Int))) then
 qcC (UInt8.ofNat (Int.toNat (IntKind.wrap .u8 (IntKind.wrap .i64 ((65:Int)+(Int.tmod (IntKind.wrap .i64 ((Int.tmod n0 (64:Int))+(64:Int))) (64:Int)))))))
 else
 bif (decide ((Int.tmod (IntKind.wrap .i64 ((Int.tmod n0 (64:Int))+(64:Int))) (64:Int)) < (52:Int))) then
 qcC (UInt8.ofNat (Int.toNat (IntKind.wrap .u8 (IntKind.wrap .i64 ((IntKind.wrap .i64 ((97:Int)+(Int.tmod (IntKind.wrap .i64 ((Int.tmod n0 (64:Int))+(64:Int))) (64:Int)))) - (26:Int))))))
 else
 bif (decide ((Int.tmod (IntKind.wrap .i64 ((Int.tmod n0 (64:Int))+(64:Int))) (64:Int)) < (62:Int))) then
 qcC (UInt8.ofNat (Int.toNat (IntKind.wrap .u8 (IntKind.wrap .i64 ((IntKind.wrap .i64 ((48:Int)+(Int.tmod (IntKind.wrap .i64 ((Int.tmod n0 (64:Int))+(64:Int))) (64:Int)))) - (52:Int))))))
 else
 bif ((Int.tmod (IntKind.wrap .i64 ((Int.tmod n0 (64:Int))+(64:Int))) (64:Int))==(62:Int)) then
 qcC (43:UInt8)
 else
 qcC (47:UInt8)
def qvE (s2:Int):Option AV:=some (.dat (.int .i64) s2 none)
def qcc (k0:Int→Option AV) (next:List Int→Int→Int→Option AV) (_n:Nat) (l0:List Int) (n3:Int) (i4:Int):Option AV :=
 bif (decide (i4 < ((List.length l0:Nat):Int))) then
 bif ((decide ((0:Int)≤i4))&&(decide (i4 < (List.length l0:Nat)))) then
 next l0 (IntKind.wrap .i64 ((IntKind.wrap .i64 ((2:Int)*n3))+(List.getD l0 (Int.toNat i4) (0:Int)))) (IntKind.wrap .i64 (i4+(1:Int)))
 else none
 else
 k0 n3
def qgu (k0:Int→Option AV):Nat→List Int→Int→Int→Option AV
 | 0=>fun _ _ _=>none
 | n+1=>qcc k0 (qgu k0 n) n
def qdt (_n:Nat) (n3:Int):Option AV :=
 qvE n3
def qoU (n:Nat) (l0:List Int):Option AV :=
 qgu (qdt n) n l0 (0:Int) (0:Int)
def qBc (s2:List UInt8):Option AV:=some (.dat (.sl .byte) s2 (some (2,5)))
def qiZ (k0:List Int→Option AV) (next:List Int→Option AV) (_n:Nat) (l3:List Int):Option AV :=
 bif ((Int.tmod ((List.length l3:Nat):Int) (6:Int)) != (0:Int)) then
 bif (decide (List.length l3+List.length ([(0:Int)]:List Int)≤room)) then
 next (l3++([(0:Int)]:List Int))
 else none
 else
 k0 l3
def qmA (k0:List Int→Option AV):Nat→List Int→Option AV
 | 0=>fun _=>none
 | n+1=>qiZ k0 (qmA k0 n) n
def qee (k2:List UInt8→Option AV) (next:List Int→List UInt8→Int→Option AV) (_n:Nat) (l3:List Int) (out4:List UInt8) (i5:Int):Option AV :=
 bif (decide (i5 < ((List.length l3:Nat):Int))) then
 bif (((decide ((0:Int)≤i5))&&(decide (i5≤(IntKind.wrap .i64 (i5+(6:Int))))))&&(decide ((IntKind.wrap .i64 (i5+(6:Int)))≤((List.length l3:Nat):Int)))) then
 bif ((qhp (List.drop (Int.toNat i5) (List.take (Int.toNat (IntKind.wrap .i64 (i5+(6:Int)))) l3)))&&true) then
 bif (decide (List.length out4+List.length ([(z135 (z136 (List.drop (Int.toNat i5) (List.take (Int.toNat (IntKind.wrap .i64 (i5+(6:Int)))) l3))))]:List UInt8)≤room)) then
 next l3 (out4++([(z135 (z136 (List.drop (Int.toNat i5) (List.take (Int.toNat (IntKind.wrap .i64 (i5+(6:Int)))) l3))))]:List UInt8)) (IntKind.wrap .i64 (i5+(6:Int)))
 else none
 else none
 else none
 else
 k2 out4
def qmB (k2:List UInt8→Option AV):Nat→List Int→List UInt8→Int→Option AV
 | 0=>fun _ _ _=>none
 | n+1=>qee k2 (qmB k2 n) n
def qgv (_n:Nat) (out4:List UInt8):Option AV :=
 qBc out4
def qbc (n:Nat) (l3:List Int):Option AV :=
 qmB (qgv n) n l3 ([]:List UInt8) (0:Int)
def qyN (n:Nat) (s0:List UInt8):Option AV :=
 bif ((qkR s0)&&true) then
 qmA (qbc n) n (z134 s0)
 else none
def qBd (s2:List UInt8):Option AV:=some (.dat (.sl .byte) s2 (some (2,5)))
def qja (k0:List UInt8→Option AV) (next:List UInt8→Option AV) (_n:Nat) (out3:List UInt8):Option AV :=
 bif ((Int.tmod ((List.length out3:Nat):Int) (4:Int)) != (0:Int)) then
 bif (decide (List.length out3+List.length ([(61:UInt8)]:List UInt8)≤room)) then
 next (out3++([(61:UInt8)]:List UInt8))
 else none
 else
 k0 out3
def qmC (k0:List UInt8→Option AV):Nat→List UInt8→Option AV
 | 0=>fun _=>none
 | n+1=>qja k0 (qmC k0 n) n
def qef (_n:Nat) (out3:List UInt8):Option AV :=
 qBd out3
def qyO (n:Nat) (s0:List UInt8):Option AV :=
 bif ((qwp s0)&&true) then
 qmC (qef n) n (z90 s0)
 else none
def qeg (s4:Bool):Option AV:=some (.dat .bool s4 none)
def qcd (ret:Bool→Option AV) (k0:Option AV) (next:List UInt8→UInt8→Int→Option AV) (_n:Nat) (s0:List UInt8) (c1:UInt8) (i5:Int):Option AV :=
 bif (decide (i5 < ((List.length s0:Nat):Int))) then
 bif ((decide ((0:Int)≤i5))&&(decide (i5 < (List.length s0:Nat)))) then
 bif ((List.getD s0 (Int.toNat i5) (0:UInt8))==c1) then
 ret true
 else
 next s0 c1 (IntKind.wrap .i64 (i5+(1:Int)))
 else none
 else
 k0
def qdu (ret:Bool→Option AV) (k0:Option AV):Nat→List UInt8→UInt8→Int→Option AV
 | 0=>fun _ _ _=>none
 | n+1=>qcd ret k0 (qdu ret k0 n) n
def qdv (_n:Nat):Option AV :=
 qeg false
def qkG (n:Nat) (s0:List UInt8) (c1:UInt8):Option AV :=
 qdu qeg (qdv n) n s0 c1 (0:Int)
def qBe (s4:Bool):Option AV:=some (.dat .bool s4 none)
def qIt (_n:Nat) (c0:UInt8) (kinds1:Int):Option AV :=
 qBe ((bits .and .i64 (z128 c0) kinds1) != (0:Int))
def qmD (s2:UInt8):Option AV:=some (.dat .byte s2 none)
def qvF (_n:Nat) (n0:Int):Option AV :=
 bif (decide ((Int.tmod (IntKind.wrap .i64 ((Int.tmod n0 (16:Int))+(16:Int))) (16:Int)) < (10:Int))) then
 qmD (UInt8.ofNat (Int.toNat (IntKind.wrap .u8 (IntKind.wrap .i64 ((48:Int)+(Int.tmod (IntKind.wrap .i64 ((Int.tmod n0 (16:Int))+(16:Int))) (16:Int)))))))
 else
 qmD (UInt8.ofNat (Int.toNat (IntKind.wrap .u8 (IntKind.wrap .i64 ((IntKind.wrap .i64 ((65:Int)+(Int.tmod (IntKind.wrap .i64 ((Int.tmod n0 (16:Int))+(16:Int))) (16:Int)))) - (10:Int))))))
def qvG (s6:List UInt8):Option AV:=some (.dat (.sl .byte) s6 (some (6,5)))
def qvH (_n:Nat) (b0:List UInt8) (sign1:UInt8) (c2:UInt8):Option AV :=
 bif (decide (List.length ([]:List UInt8)+List.length b0≤room)) then
 bif ((qcm (IntKind.wrap .i64 (Int.tdiv (IntKind.wrap .i64 ((UInt8.toNat c2:Nat):Int)) (16:Int))))&&true) then
 bif ((qcm (Int.tmod (IntKind.wrap .i64 ((UInt8.toNat c2:Nat):Int)) (16:Int)))&&true) then
 bif (decide (List.length (([]:List UInt8)++b0)+List.length ([sign1,(z184 (IntKind.wrap .i64 (Int.tdiv (IntKind.wrap .i64 ((UInt8.toNat c2:Nat):Int)) (16:Int)))),(z184 (Int.tmod (IntKind.wrap .i64 ((UInt8.toNat c2:Nat):Int)) (16:Int)))]:List UInt8)≤room)) then
 qvG ((([]:List UInt8)++b0)++([sign1,(z184 (IntKind.wrap .i64 (Int.tdiv (IntKind.wrap .i64 ((UInt8.toNat c2:Nat):Int)) (16:Int)))),(z184 (Int.tmod (IntKind.wrap .i64 ((UInt8.toNat c2:Nat):Int)) (16:Int)))]:List UInt8))
 else none
 else none
 else none
 else none
def qoV (s2:List UInt8):Option AV:=some (.dat (.sl .byte) s2 (some (2,5)))
def qCP (_n:Nat) (c0:UInt8):Option AV :=
 bif (c0==(32:UInt8)) then
 qoV ([(95:UInt8)]:List UInt8)
 else
 bif (z82 c0 (128:Int)) then
 qoV ([c0]:List UInt8)
 else
 bif ((qpp ([]:List UInt8) (61:UInt8) c0)&&true) then
 qoV (z137 ([]:List UInt8) (61:UInt8) c0)
 else none
def qBf (s2:List UInt8):Option AV:=some (.dat (.sl .byte) s2 (some (2,5)))
def qeh (k0:List UInt8→Option AV) (next:List UInt8→List UInt8→Int→Option AV) (_n:Nat) (s0:List UInt8) (out3:List UInt8) (i4:Int):Option AV :=
 bif (decide (i4 < ((List.length s0:Nat):Int))) then
 bif ((decide ((0:Int)≤i4))&&(decide (i4 < (List.length s0:Nat)))) then
 bif (decide (List.length out3+List.length (z91 (List.getD s0 (Int.toNat i4) (0:UInt8)))≤room)) then
 next s0 (out3++(z91 (List.getD s0 (Int.toNat i4) (0:UInt8)))) (IntKind.wrap .i64 (i4+(1:Int)))
 else none
 else none
 else
 k0 out3
def qmE (k0:List UInt8→Option AV):Nat→List UInt8→List UInt8→Int→Option AV
 | 0=>fun _ _ _=>none
 | n+1=>qeh k0 (qmE k0 n) n
def qei (_n:Nat) (out3:List UInt8):Option AV :=
 qBf out3
def qyP (n:Nat) (s0:List UInt8):Option AV :=
 qmE (qei n) n s0 ([]:List UInt8) (0:Int)
def qvI (s2:Int):Option AV:=some (.dat (.int .i32) s2 none)
def qBg (_n:Nat) (x0:UInt8):Option AV :=
 qvI (IntKind.wrap .i32 ((UInt8.toNat x0:Nat):Int))
def qjb (s2:UInt8) (s3:Bool):Option AV:=some (.tup [(.dat .byte s2 none),(.dat .bool s3 none)])
def qeX (ret:UInt8→Bool→Option AV) (k0:Option AV) (next:Int→Int→Option AV) (_n:Nat) (c0:Int) (n4:Int):Option AV :=
 bif (decide (n4 < (256:Int))) then
 bif ((z210 (UInt8.ofNat (Int.toNat (IntKind.wrap .u8 n4))))==c0) then
 bif (c0 != (65533:Int)) then
 ret (UInt8.ofNat (Int.toNat (IntKind.wrap .u8 n4))) true
 else
 next c0 (IntKind.wrap .i64 (n4+(1:Int)))
 else
 next c0 (IntKind.wrap .i64 (n4+(1:Int)))
 else
 k0
def qeB (ret:UInt8→Bool→Option AV) (k0:Option AV):Nat→Int→Int→Option AV
 | 0=>fun _ _=>none
 | n+1=>qeX ret k0 (qeB ret k0 n) n
def qeY (_n:Nat):Option AV :=
 qjb (0:UInt8) false
def qoW (n:Nat) (c0:Int):Option AV :=
 qeB qjb (qeY n) n c0 (0:Int)
def qck (s2:Int):Option AV:=some (.dat (.int .i32) s2 none)
def qCQ (_n:Nat) (x0:UInt8):Option AV :=
 bif (x0==(164:UInt8)) then
 qck (8364:Int)
 else
 bif (x0==(166:UInt8)) then
 qck (352:Int)
 else
 bif (x0==(168:UInt8)) then
 qck (353:Int)
 else
 bif (x0==(180:UInt8)) then
 qck (381:Int)
 else
 bif (x0==(184:UInt8)) then
 qck (382:Int)
 else
 bif (x0==(188:UInt8)) then
 qck (338:Int)
 else
 bif (x0==(189:UInt8)) then
 qck (339:Int)
 else
 bif (x0==(190:UInt8)) then
 qck (376:Int)
 else
 qck (IntKind.wrap .i32 ((UInt8.toNat x0:Nat):Int))
def qgw (s2:UInt8) (s3:Bool):Option AV:=some (.tup [(.dat .byte s2 none),(.dat .bool s3 none)])
def qeZ (ret:UInt8→Bool→Option AV) (k0:Option AV) (next:Int→Int→Option AV) (_n:Nat) (c0:Int) (n4:Int):Option AV :=
 bif (decide (n4 < (256:Int))) then
 bif ((z64 (UInt8.ofNat (Int.toNat (IntKind.wrap .u8 n4))))==c0) then
 bif (c0 != (65533:Int)) then
 ret (UInt8.ofNat (Int.toNat (IntKind.wrap .u8 n4))) true
 else
 next c0 (IntKind.wrap .i64 (n4+(1:Int)))
 else
 next c0 (IntKind.wrap .i64 (n4+(1:Int)))
 else
 k0
def qgx (ret:UInt8→Bool→Option AV) (k0:Option AV):Nat→Int→Int→Option AV
 | 0=>fun _ _=>none
 | n+1=>qeZ ret k0 (qgx ret k0 n) n
def qdw (_n:Nat):Option AV :=
 qgw (0:UInt8) false
def qoX (n:Nat) (c0:Int):Option AV :=
 qgx qgw (qdw n) n c0 (0:Int)
def qoY (s2:Int):Option AV:=some (.dat (.int .i32) s2 none)
def qCR (_n:Nat) (x0:UInt8):Option AV :=
 bif (decide (x0 < (128:UInt8))) then
 qoY (IntKind.wrap .i32 ((UInt8.toNat x0:Nat):Int))
 else
 bif (decide ((159:UInt8) < x0)) then
 qoY (IntKind.wrap .i32 ((UInt8.toNat x0:Nat):Int))
 else
 bif ((decide ((0:Int)≤((UInt8.toNat (x0 - (128:UInt8)):Nat):Int)))&&(decide (((UInt8.toNat (x0 - (128:UInt8)):Nat):Int) < (List.length ([(8364:Int),(65533:Int),(8218:Int),(402:Int),(8222:Int),(8230:Int),(8224:Int),(8225:Int),(710:Int),(8240:Int),(352:Int),(8249:Int),(338:Int),(65533:Int),(381:Int),(65533:Int),(65533:Int),(8216:Int),(8217:Int),(8220:Int),(8221:Int),(8226:Int),(8211:Int),(8212:Int),(732:Int),(8482:Int),(353:Int),(8250:Int),(339:Int),(65533:Int),(382:Int),(376:Int)]:List Int):Nat)))) then
 qoY (List.getD ([(8364:Int),(65533:Int),(8218:Int),(402:Int),(8222:Int),(8230:Int),(8224:Int),(8225:Int),(710:Int),(8240:Int),(352:Int),(8249:Int),(338:Int),(65533:Int),(381:Int),(65533:Int),(65533:Int),(8216:Int),(8217:Int),(8220:Int),(8221:Int),(8226:Int),(8211:Int),(8212:Int),(732:Int),(8482:Int),(353:Int),(8250:Int),(339:Int),(65533:Int),(382:Int),(376:Int)]:List Int) (Int.toNat ((UInt8.toNat (x0 - (128:UInt8)):Nat):Int)) (0:Int))
 else none
def qgy (s2:UInt8) (s3:Bool):Option AV:=some (.tup [(.dat .byte s2 none),(.dat .bool s3 none)])
def qfa (ret:UInt8→Bool→Option AV) (k0:Option AV) (next:Int→Int→Option AV) (_n:Nat) (c0:Int) (n4:Int):Option AV :=
 bif (decide (n4 < (256:Int))) then
 bif ((z65 (UInt8.ofNat (Int.toNat (IntKind.wrap .u8 n4))))==c0) then
 bif (c0 != (65533:Int)) then
 ret (UInt8.ofNat (Int.toNat (IntKind.wrap .u8 n4))) true
 else
 next c0 (IntKind.wrap .i64 (n4+(1:Int)))
 else
 next c0 (IntKind.wrap .i64 (n4+(1:Int)))
 else
 k0
def qgz (ret:UInt8→Bool→Option AV) (k0:Option AV):Nat→Int→Int→Option AV
 | 0=>fun _ _=>none
 | n+1=>qfa ret k0 (qgz ret k0 n) n
def qdx (_n:Nat):Option AV :=
 qgy (0:UInt8) false
def qoZ (n:Nat) (c0:Int):Option AV :=
 qgz qgy (qdx n) n c0 (0:Int)
def qmF (s2:Bool):Option AV:=some (.dat .bool s2 none)
def qvJ (_n:Nat) (c0:Int):Option AV :=
 bif (decide ((55296:Int)≤c0)) then
 qmF (decide (c0≤(57343:Int)))
 else
 qmF false
def qjc (s2:Bool):Option AV:=some (.dat .bool s2 none)
def qvK (_n:Nat) (c0:Int):Option AV :=
 bif (decide ((0:Int)≤c0)) then
 bif (decide (c0≤(1114111:Int))) then
 qjc (!(z234 c0))
 else
 qjc false
 else
 qjc false
def qbB (s4:Bool):Option AV:=some (.dat .bool s4 none)
def qvL (_n:Nat) (charset0:Int) (c1:Int):Option AV :=
 bif (charset0==(1:Int)) then
 bif (decide ((0:Int)≤c1)) then
 qbB (decide (c1 < (128:Int)))
 else
 qbB false
 else
 bif (charset0==(2:Int)) then
 qbB ((z168 c1).2)
 else
 bif (charset0==(3:Int)) then
 qbB ((z169 c1).2)
 else
 bif (charset0==(4:Int)) then
 qbB ((z170 c1).2)
 else
 bif (charset0==(5:Int)) then
 qbB (z209 c1)
 else
 qbB false
def qej (s2:List UInt8):Option AV:=some (.dat (.sl .byte) s2 (some (2,5)))
def qvM (_n:Nat) (c0:Int):Option AV :=
 bif (!(z209 c0)) then
 qej ([]:List UInt8)
 else
 bif (decide ((IntKind.wrap .i64 c0) < (128:Int))) then
 qej ([(UInt8.ofNat (Int.toNat (IntKind.wrap .u8 (IntKind.wrap .i64 c0))))]:List UInt8)
 else
 bif (decide ((IntKind.wrap .i64 c0) < (2048:Int))) then
 qej ([(UInt8.ofNat (Int.toNat (IntKind.wrap .u8 (IntKind.wrap .i64 ((192:Int)+(IntKind.wrap .i64 (Int.tdiv (IntKind.wrap .i64 c0) (64:Int)))))))),(UInt8.ofNat (Int.toNat (IntKind.wrap .u8 (IntKind.wrap .i64 ((128:Int)+(Int.tmod (IntKind.wrap .i64 c0) (64:Int)))))))]:List UInt8)
 else
 bif (decide ((IntKind.wrap .i64 c0) < (65536:Int))) then
 qej ([(UInt8.ofNat (Int.toNat (IntKind.wrap .u8 (IntKind.wrap .i64 ((224:Int)+(IntKind.wrap .i64 (Int.tdiv (IntKind.wrap .i64 c0) (4096:Int)))))))),(UInt8.ofNat (Int.toNat (IntKind.wrap .u8 (IntKind.wrap .i64 ((128:Int)+(Int.tmod (IntKind.wrap .i64 (Int.tdiv (IntKind.wrap .i64 c0) (64:Int))) (64:Int))))))),(UInt8.ofNat (Int.toNat (IntKind.wrap .u8 (IntKind.wrap .i64 ((128:Int)+(Int.tmod (IntKind.wrap .i64 c0) (64:Int)))))))]:List UInt8)
 else
 qej ([(UInt8.ofNat (Int.toNat (IntKind.wrap .u8 (IntKind.wrap .i64 ((240:Int)+(IntKind.wrap .i64 (Int.tdiv (IntKind.wrap .i64 c0) (262144:Int)))))))),(UInt8.ofNat (Int.toNat (IntKind.wrap .u8 (IntKind.wrap .i64 ((128:Int)+(Int.tmod (IntKind.wrap .i64 (Int.tdiv (IntKind.wrap .i64 c0) (4096:Int))) (64:Int))))))),(UInt8.ofNat (Int.toNat (IntKind.wrap .u8 (IntKind.wrap .i64 ((128:Int)+(Int.tmod (IntKind.wrap .i64 (Int.tdiv (IntKind.wrap .i64 c0) (64:Int))) (64:Int))))))),(UInt8.ofNat (Int.toNat (IntKind.wrap .u8 (IntKind.wrap .i64 ((128:Int)+(Int.tmod (IntKind.wrap .i64 c0) (64:Int)))))))]:List UInt8)
def qcD (s4:List UInt8):Option AV:=some (.dat (.sl .byte) s4 (some (4,5)))
def qvN (_n:Nat) (charset0:Int) (c1:Int):Option AV :=
 bif (!(z167 charset0 c1)) then
 qcD ([]:List UInt8)
 else
 bif (charset0==(1:Int)) then
 qcD ([(UInt8.ofNat (Int.toNat (IntKind.wrap .u8 c1)))]:List UInt8)
 else
 bif (charset0==(2:Int)) then
 qcD ([((z168 c1).1)]:List UInt8)
 else
 bif (charset0==(3:Int)) then
 qcD ([((z169 c1).1)]:List UInt8)
 else
 bif (charset0==(4:Int)) then
 qcD ([((z170 c1).1)]:List UInt8)
 else
 qcD (z171 c1)
def qeC (s4:List UInt8) (s5:Int):Option AV:=some (.tup [(.dat (.sl .byte) s4 none),(.dat (.int .i64) s5 none)])
def qek (ret:List UInt8→Int→Option AV) (k0:List UInt8→Option AV) (next:Int→List Int→List UInt8→Int→Option AV) (_n:Nat) (charset0:Int) (t1:List Int) (out6:List UInt8) (i7:Int):Option AV :=
 bif (decide (i7 < ((List.length t1:Nat):Int))) then
 bif ((decide ((0:Int)≤i7))&&(decide (i7 < (List.length t1:Nat)))) then
 bif (((List.length (z121 charset0 (List.getD t1 (Int.toNat i7) (0:Int))):Nat):Int)==(0:Int)) then
 ret ([]:List UInt8) (9:Int)
 else
 bif (decide (List.length out6+List.length (z121 charset0 (List.getD t1 (Int.toNat i7) (0:Int)))≤room)) then
 next charset0 t1 (out6++(z121 charset0 (List.getD t1 (Int.toNat i7) (0:Int)))) (IntKind.wrap .i64 (i7+(1:Int)))
 else none
 else none
 else
 k0 out6
def qmG (ret:List UInt8→Int→Option AV) (k0:List UInt8→Option AV):Nat→Int→List Int→List UInt8→Int→Option AV
 | 0=>fun _ _ _ _=>none
 | n+1=>qek ret k0 (qmG ret k0 n) n
def qel (_n:Nat) (out6:List UInt8):Option AV :=
 qeC out6 (0:Int)
def qyQ (n:Nat) (charset0:Int) (t1:List Int):Option AV :=
 bif (decide (charset0 < (1:Int))) then
 qeC ([]:List UInt8) (10:Int)
 else
 bif (decide ((5:Int) < charset0)) then
 qeC ([]:List UInt8) (10:Int)
 else
 qmG qeC (qel n) n charset0 t1 ([]:List UInt8) (0:Int)
def qdy (s6:Int) (s7:Int):Option AV:=some (.tup [(.dat (.int .i64) s6 none),(.dat (.int .i64) s7 none)])
def qCS (_n:Nat) (charset0:Int) (code1:Int) (t2:List Int):Option AV :=
 bif ((qAw charset0 t2)&&true) then
 bif (((z76 charset0 t2).2)==(10:Int)) then
 qdy (0:Int) ((z76 charset0 t2).2)
 else
 bif (code1 != (1:Int)) then
 bif (code1 != (2:Int)) then
 qdy (0:Int) (3:Int)
 else
 bif (((z76 charset0 t2).2) != (0:Int)) then
 qdy (0:Int) ((z76 charset0 t2).2)
 else
 bif (code1==(1:Int)) then
 bif ((qrd ((z76 charset0 t2).1))&&true) then
 qdy (IntKind.wrap .i64 ((z18 charset0)+((List.length (z49 ((z76 charset0 t2).1)):Nat):Int))) (0:Int)
 else none
 else
 bif ((qrc ((z76 charset0 t2).1))&&true) then
 qdy (IntKind.wrap .i64 ((z18 charset0)+((List.length (z50 ((z76 charset0 t2).1)):Nat):Int))) (0:Int)
 else none
 else
 bif (((z76 charset0 t2).2) != (0:Int)) then
 qdy (0:Int) ((z76 charset0 t2).2)
 else
 bif (code1==(1:Int)) then
 bif ((qrd ((z76 charset0 t2).1))&&true) then
 qdy (IntKind.wrap .i64 ((z18 charset0)+((List.length (z49 ((z76 charset0 t2).1)):Nat):Int))) (0:Int)
 else none
 else
 bif ((qrc ((z76 charset0 t2).1))&&true) then
 qdy (IntKind.wrap .i64 ((z18 charset0)+((List.length (z50 ((z76 charset0 t2).1)):Nat):Int))) (0:Int)
 else none
 else none
def qgA (s8:Bool):Option AV:=some (.dat .bool s8 none)
def qvO (_n:Nat) (charset0:Int) (code1:Int) (t2:List Int) (room3:Int):Option AV :=
 bif ((qgR charset0 code1 t2)&&true) then
 bif (((z69 charset0 code1 t2).2)==(0:Int)) then
 bif (decide ((0:Int) < ((List.length t2:Nat):Int))) then
 bif (decide (((z69 charset0 code1 t2).1)≤room3)) then
 qgA (decide (((z69 charset0 code1 t2).1)≤(75:Int)))
 else
 qgA false
 else
 qgA false
 else
 qgA false
 else none
def qkH (s8:Int):Option AV:=some (.dat (.int .i64) s8 none)
def qem (ret:Int→Option AV) (k0:List Int→Option AV) (next:Int→Int→List Int→Int→Int→Option AV) (_n:Nat) (charset0:Int) (code1:Int) (t2:List Int) (room3:Int) (n9:Int):Option AV :=
 bif (decide (n9≤((List.length t2:Nat):Int))) then
 bif (((decide ((0:Int)≤((0:Nat):Int)))&&(decide (((0:Nat):Int)≤n9)))&&(decide (n9≤((List.length t2:Nat):Int)))) then
 bif ((qoq charset0 code1 (List.drop (Int.toNat ((0:Nat):Int)) (List.take (Int.toNat n9) t2)) room3)&&true) then
 bif (!(z115 charset0 code1 (List.drop (Int.toNat ((0:Nat):Int)) (List.take (Int.toNat n9) t2)) room3)) then
 ret (IntKind.wrap .i64 (n9 - (1:Int)))
 else
 next charset0 code1 t2 room3 (IntKind.wrap .i64 (n9+(1:Int)))
 else none
 else none
 else
 k0 t2
def qmH (ret:Int→Option AV) (k0:List Int→Option AV):Nat→Int→Int→List Int→Int→Int→Option AV
 | 0=>fun _ _ _ _ _=>none
 | n+1=>qem ret k0 (qmH ret k0 n) n
def qgB (_n:Nat) (t2:List Int):Option AV :=
 qkH ((List.length t2:Nat):Int)
def qyR (n:Nat) (charset0:Int) (code1:Int) (t2:List Int) (room3:Int):Option AV :=
 qmH qkH (qgB n) n charset0 code1 t2 room3 (1:Int)
def qbj (s8:List (List Int)) (s9:Int):Option AV:=some (.tup [(.dat (.sl (.sl (.int .i32))) s8 none),(.dat (.int .i64) s9 none)])
def qjd (ret:List (List Int)→Int→Option AV) (k0:List (List Int)→Option AV) (next:Int→Int→List Int→List (List Int)→Int→Option AV) (_n:Nat) (charset0:Int) (code1:Int) (t2:List Int) (out12:List (List Int)) (room13:Int):Option AV :=
 bif (decide ((0:Int) < ((List.length t2:Nat):Int))) then
 bif ((qym charset0 code1 t2 room13)&&true) then
 bif ((z70 charset0 code1 t2 room13)==(0:Int)) then
 ret ([]:List (List Int)) (12:Int)
 else
 bif (((decide ((0:Int)≤((0:Nat):Int)))&&(decide (((0:Nat):Int)≤(z70 charset0 code1 t2 room13))))&&(decide ((z70 charset0 code1 t2 room13)≤((List.length t2:Nat):Int)))) then
 bif (decide (List.length out12+List.length ([(List.drop (Int.toNat ((0:Nat):Int)) (List.take (Int.toNat (z70 charset0 code1 t2 room13)) t2))]:List (List Int))≤room)) then
 bif (((decide ((0:Int)≤(z70 charset0 code1 t2 room13)))&&(decide ((z70 charset0 code1 t2 room13)≤((List.length t2:Nat):Int))))&&(decide (((List.length t2:Nat):Int)≤((List.length t2:Nat):Int)))) then
 next charset0 code1 (List.drop (Int.toNat (z70 charset0 code1 t2 room13)) (List.take (Int.toNat ((List.length t2:Nat):Int)) t2)) (out12++([(List.drop (Int.toNat ((0:Nat):Int)) (List.take (Int.toNat (z70 charset0 code1 t2 room13)) t2))]:List (List Int))) (75:Int)
 else none
 else none
 else none
 else none
 else
 k0 out12
def qmI (ret:List (List Int)→Int→Option AV) (k0:List (List Int)→Option AV):Nat→Int→Int→List Int→List (List Int)→Int→Option AV
 | 0=>fun _ _ _ _ _=>none
 | n+1=>qjd ret k0 (qmI ret k0 n) n
def qgC (_n:Nat) (out12:List (List Int)):Option AV :=
 qbj out12 (0:Int)
def qyS (n:Nat) (charset0:Int) (code1:Int) (t2:List Int) (first3:Int):Option AV :=
 bif ((qgR charset0 code1 t2)&&true) then
 bif (((z69 charset0 code1 t2).2) != (0:Int)) then
 qbj ([]:List (List Int)) ((z69 charset0 code1 t2).2)
 else
 qmI qbj (qgC n) n charset0 code1 t2 ([]:List (List Int)) first3
 else none
def qgD (s4:Int):Option AV:=some (.dat (.int .i64) s4 none)
def qce (ret:Int→Option AV) (k0:Option AV) (next:Int→List Int→Int→Option AV) (_n:Nat) (charset0:Int) (t1:List Int) (i5:Int):Option AV :=
 bif (decide (i5 < ((List.length t1:Nat):Int))) then
 bif ((decide ((0:Int)≤i5))&&(decide (i5 < (List.length t1:Nat)))) then
 bif (!(z167 charset0 (List.getD t1 (Int.toNat i5) (0:Int)))) then
 ret i5
 else
 next charset0 t1 (IntKind.wrap .i64 (i5+(1:Int)))
 else none
 else
 k0
def qgE (ret:Int→Option AV) (k0:Option AV):Nat→Int→List Int→Int→Option AV
 | 0=>fun _ _ _=>none
 | n+1=>qce ret k0 (qgE ret k0 n) n
def qdz (_n:Nat):Option AV :=
 qgD (-1:Int)
def qpa (n:Nat) (charset0:Int) (t1:List Int):Option AV :=
 qgE qgD (qdz n) n charset0 t1 (0:Int)
def qje (s4:Bool):Option AV:=some (.dat .bool s4 none)
def qvP (_n:Nat) (charset0:Int) (t1:List Int):Option AV :=
 bif (decide ((1:Int)≤charset0)) then
 bif (decide (charset0≤(5:Int))) then
 bif ((qot charset0 t1)&&true) then
 qje (decide ((z160 charset0 t1) < (0:Int)))
 else none
 else
 qje false
 else
 qje false
def qdA (s2:Int) (s3:Int):Option AV:=some (.tup [(.dat (.int .i64) s2 none),(.dat (.int .i64) s3 none)])
def qen (ret:Int→Int→Option AV) (k0:Option AV) (next:List Int→Int→Option AV) (_n:Nat) (t0:List Int) (n4:Int):Option AV :=
 bif (decide (n4≤(5:Int))) then
 bif ((qou n4 t0)&&true) then
 bif (z119 n4 t0) then
 ret n4 (0:Int)
 else
 next t0 (IntKind.wrap .i64 (n4+(1:Int)))
 else none
 else
 k0
def qjf (ret:Int→Int→Option AV) (k0:Option AV):Nat→List Int→Int→Option AV
 | 0=>fun _ _=>none
 | n+1=>qen ret k0 (qjf ret k0 n) n
def qcE (_n:Nat):Option AV :=
 qdA (0:Int) (7:Int)
def qyT (n:Nat) (t0:List Int):Option AV :=
 qjf qdA (qcE n) n t0 (1:Int)
def qpb (s4:Int) (s5:Int):Option AV:=some (.tup [(.dat (.int .i64) s4 none),(.dat (.int .i64) s5 none)])
def qCT (_n:Nat) (charset0:Int) (t1:List Int):Option AV :=
 bif ((qgR charset0 (1:Int) t1)&&true) then
 bif ((qgR charset0 (2:Int) t1)&&true) then
 bif (((z69 charset0 (1:Int) t1).2) != (0:Int)) then
 qpb (0:Int) ((z69 charset0 (1:Int) t1).2)
 else
 bif (decide (((z69 charset0 (2:Int) t1).1)≤((z69 charset0 (1:Int) t1).1))) then
 qpb (2:Int) (0:Int)
 else
 qpb (1:Int) (0:Int)
 else none
 else none
def qvQ (s2:Int) (s3:Int) (s4:Int):Option AV:=some (.tup [(.dat (.int .i64) s2 none),(.dat (.int .i64) s3 none),(.dat (.int .i64) s4 none)])
def qCU (_n:Nat) (t0:List Int):Option AV :=
 bif ((qyo t0)&&true) then
 bif (((z73 t0).2) != (0:Int)) then
 qvQ (0:Int) (0:Int) ((z73 t0).2)
 else
 bif ((qyl ((z73 t0).1) t0)&&true) then
 qvQ ((z73 t0).1) ((z74 ((z73 t0).1) t0).1) (0:Int)
 else none
 else none
def qeM (s4:Bool):Option AV:=some (.dat .bool s4 none)
def qeo (ret:Bool→Option AV) (k0:Option AV) (next:List (List Int)→List (List Int)→Int→Int→Option AV) (_n:Nat) (a5:List (List Int)) (b7:List (List Int)) (s80:Int) (s81:Int):Option AV :=
 bif (decide (s81 < s80)) then
 bif ((decide ((0:Int)≤s81))&&(decide (s81 < (List.length a5:Nat)))) then
 bif ((decide ((0:Int)≤s81))&&(decide (s81 < (List.length b7:Nat)))) then
 bif ((qAz (List.getD a5 (Int.toNat s81) ([]:List Int)) (List.getD b7 (Int.toNat s81) ([]:List Int)))&&true) then
 bif (!(z21 (List.getD a5 (Int.toNat s81) ([]:List Int)) (List.getD b7 (Int.toNat s81) ([]:List Int)))) then
 ret false
 else
 next a5 b7 s80 (IntKind.wrap .i64 (s81+(1:Int)))
 else none
 else none
 else none
 else
 k0
def qmJ (ret:Bool→Option AV) (k0:Option AV):Nat→List (List Int)→List (List Int)→Int→Int→Option AV
 | 0=>fun _ _ _ _=>none
 | n+1=>qeo ret k0 (qmJ ret k0 n) n
def qgF (_n:Nat):Option AV :=
 qeM z27
def z7_sh (n:Nat) (how0:List Int) (t1:List Int):Option AV :=
 bif (decide ((80:Int) < ((List.length t1:Nat):Int))) then
 qeM z27
 else
 bif ((decide ((0:Int)≤(0:Int)))&&(decide ((0:Int) < (3:Nat)))) then
 bif ((decide ((0:Int)≤(1:Int)))&&(decide ((1:Int) < (3:Nat)))) then
 bif ((decide ((0:Int)≤(2:Int)))&&(decide ((2:Int) < (3:Nat)))) then
 bif ((qqP (List.getD how0 (Int.toNat (0:Int)) (0:Int)) (List.getD how0 (Int.toNat (1:Int)) (0:Int)) t1 (List.getD how0 (Int.toNat (2:Int)) (0:Int)))&&true) then
 bif ((decide ((0:Int)≤(0:Int)))&&(decide ((0:Int) < (3:Nat)))) then
 bif ((decide ((0:Int)≤(1:Int)))&&(decide ((1:Int) < (3:Nat)))) then
 bif ((decide ((0:Int)≤(2:Int)))&&(decide ((2:Int) < (3:Nat)))) then
 bif ((qyq (List.getD how0 (Int.toNat (0:Int)) (0:Int)) (List.getD how0 (Int.toNat (1:Int)) (0:Int)) t1 (List.getD how0 (Int.toNat (2:Int)) (0:Int)))&&true) then
 bif ((qqQ t1)&&true) then
 bif ((qyr t1)&&true) then
 bif (((List.length ((z28 (List.getD how0 (Int.toNat (0:Int)) (0:Int)) (List.getD how0 (Int.toNat (1:Int)) (0:Int)) t1 (List.getD how0 (Int.toNat (2:Int)) (0:Int))).1):Nat):Int) != ((List.length ((z29 (List.getD how0 (Int.toNat (0:Int)) (0:Int)) (List.getD how0 (Int.toNat (1:Int)) (0:Int)) t1 (List.getD how0 (Int.toNat (2:Int)) (0:Int))).1):Nat):Int)) then
 qeM false
 else
 bif (((z28 (List.getD how0 (Int.toNat (0:Int)) (0:Int)) (List.getD how0 (Int.toNat (1:Int)) (0:Int)) t1 (List.getD how0 (Int.toNat (2:Int)) (0:Int))).2) != ((z29 (List.getD how0 (Int.toNat (0:Int)) (0:Int)) (List.getD how0 (Int.toNat (1:Int)) (0:Int)) t1 (List.getD how0 (Int.toNat (2:Int)) (0:Int))).2)) then
 qeM false
 else
 bif (((z30 t1).1) != ((z31 t1).1)) then
 qeM false
 else
 bif (((z30 t1).2.1) != ((z31 t1).2.1)) then
 qeM false
 else
 bif (((z30 t1).2.2) != ((z31 t1).2.2)) then
 qeM false
 else
 qmJ qeM (qgF n) n ((z28 (List.getD how0 (Int.toNat (0:Int)) (0:Int)) (List.getD how0 (Int.toNat (1:Int)) (0:Int)) t1 (List.getD how0 (Int.toNat (2:Int)) (0:Int))).1) ((z29 (List.getD how0 (Int.toNat (0:Int)) (0:Int)) (List.getD how0 (Int.toNat (1:Int)) (0:Int)) t1 (List.getD how0 (Int.toNat (2:Int)) (0:Int))).1) ((List.length ((z28 (List.getD how0 (Int.toNat (0:Int)) (0:Int)) (List.getD how0 (Int.toNat (1:Int)) (0:Int)) t1 (List.getD how0 (Int.toNat (2:Int)) (0:Int))).1):Nat):Int) (0:Int)
 else none
 else none
 else none
 else none
 else none
 else none
 else none
 else none
 else none
 else none
end
end Go.Av
