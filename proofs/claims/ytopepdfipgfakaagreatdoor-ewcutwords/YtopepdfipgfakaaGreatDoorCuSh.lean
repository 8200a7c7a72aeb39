import Derived.Test.YtopepdfipgfakaaGreatDoorCuM
import Derived.Test.YtopepdfipgfakaaGreatDoorAvE
namespace Go.Av
set_option linter.unusedSimpArgs false
set_option linter.unusedVariables false
noncomputable section
def qhu (s4:Bool):Option AV:=some (.dat .bool s4 none)
def qdZ (ret:Bool→Option AV) (k0:Option AV) (next:List UInt8→List UInt8→Int→Option AV) (_n:Nat) (a0:List UInt8) (b1:List UInt8) (i5:Int):Option AV :=
 bif (decide (i5 < ((List.length a0:Nat):Int))) then
 bif ((decide ((0:Int)≤i5))&&(decide (i5 < (List.length a0:Nat)))) then
 bif ((decide ((0:Int)≤i5))&&(decide (i5 < (List.length b1:Nat)))) then
 bif ((List.getD a0 (Int.toNat i5) (0:UInt8)) != (List.getD b1 (Int.toNat i5) (0:UInt8))) then
 ret false
 else
 next a0 b1 (IntKind.wrap .i64 (i5+(1:Int)))
 else none
 else none
 else
 k0
def qjl (ret:Bool→Option AV) (k0:Option AV):Nat→List UInt8→List UInt8→Int→Option AV
 | 0=>fun _ _ _=>none
 | n+1=>qdZ ret k0 (qjl ret k0 n) n
def qjm (_n:Nat):Option AV :=
 qhu true
def qzz (n:Nat) (a0:List UInt8) (b1:List UInt8):Option AV :=
 bif (((List.length a0:Nat):Int) != ((List.length b1:Nat):Int)) then
 qhu false
 else
 qjl qhu (qjm n) n a0 b1 (0:Int)
def qvq (s2:Bool):Option AV:=some (.dat .bool s2 none)
def qDq (_n:Nat) (n0:Int):Option AV :=
 bif (decide ((1:Int)≤n0)) then
 qvq (decide (n0≤(5:Int)))
 else
 qvq false
def qpm (s2:List UInt8):Option AV:=some (.dat .str s2 none)
def qDr (_n:Nat) (n0:Int):Option AV :=
 bif (n0==(1:Int)) then
 qpm ([66]:List UInt8)
 else
 bif (n0==(2:Int)) then
 qpm ([81]:List UInt8)
 else
 qpm ([]:List UInt8)
def qcz (s2:List (List UInt8)):Option AV:=some (.dat (.sl .str) s2 (some (2,9)))
def qvr (_n:Nat) (charset0:Int):Option AV :=
 bif (charset0==(1:Int)) then
 qcz ([([117,115,45,97,115,99,105,105]:List UInt8),([97,115,99,105,105]:List UInt8),([97,110,115,105,95,120,51,46,52,45,49,57,54,56]:List UInt8),([105,115,111,54,52,54,45,117,115]:List UInt8)]:List (List UInt8))
 else
 bif (charset0==(2:Int)) then
 qcz ([([105,115,111,45,56,56,53,57,45,49]:List UInt8),([105,115,111,95,56,56,53,57,45,49]:List UInt8),([108,97,116,105,110,49]:List UInt8),([108,49]:List UInt8)]:List (List UInt8))
 else
 bif (charset0==(3:Int)) then
 qcz ([([105,115,111,45,56,56,53,57,45,49,53]:List UInt8),([105,115,111,95,56,56,53,57,45,49,53]:List UInt8),([108,97,116,105,110,45,57]:List UInt8)]:List (List UInt8))
 else
 bif (charset0==(4:Int)) then
 qcz ([([119,105,110,100,111,119,115,45,49,50,53,50]:List UInt8),([99,112,49,50,53,50]:List UInt8)]:List (List UInt8))
 else
 bif (charset0==(5:Int)) then
 qcz ([([117,116,102,45,56]:List UInt8),([117,116,102,56]:List UInt8)]:List (List UInt8))
 else
 qcz ([]:List (List UInt8))
def qvs (s2:List UInt8):Option AV:=some (.dat .str s2 none)
def qDs (_n:Nat) (charset0:Int):Option AV :=
 bif (((List.length (z133 charset0):Nat):Int)==(0:Int)) then
 qvs ([]:List UInt8)
 else
 bif ((decide ((0:Int)≤(0:Int)))&&(decide ((0:Int) < (List.length (z133 charset0):Nat)))) then
 qvs (List.getD (z133 charset0) (Int.toNat (0:Int)) ([]:List UInt8))
 else none
def qBD (s4:List UInt8):Option AV:=some (.dat .str s4 none)
def qDt (_n:Nat) (charset0:Int) (code1:Int):Option AV :=
 bif (decide (List.length ([61,63]:List UInt8)+List.length (z89 charset0)≤9223372036854775807)) then
 bif (decide (List.length (([61,63]:List UInt8)++(z89 charset0))+List.length ([63]:List UInt8)≤9223372036854775807)) then
 bif (decide (List.length ((([61,63]:List UInt8)++(z89 charset0))++([63]:List UInt8))+List.length (z45 code1)≤9223372036854775807)) then
 bif (decide (List.length (((([61,63]:List UInt8)++(z89 charset0))++([63]:List UInt8))++(z45 code1))+List.length ([63]:List UInt8)≤9223372036854775807)) then
 qBD ((((([61,63]:List UInt8)++(z89 charset0))++([63]:List UInt8))++(z45 code1))++([63]:List UInt8))
 else none
 else none
 else none
 else none
def qkV (s2:Int):Option AV:=some (.dat (.int .i64) s2 none)
def qDu (_n:Nat) (charset0:Int):Option AV :=
 bif (!(z44 charset0)) then
 qkV (0:Int)
 else
 qkV (IntKind.wrap .i64 ((IntKind.wrap .i64 (((List.length (z48 charset0 (2:Int)):Nat):Int)+(1:Int)))+(1:Int)))
def qaQ (s2:Int):Option AV:=some (.dat (.int .i64) s2 none)
def qvt (_n:Nat) (charset0:Int):Option AV :=
 bif (charset0==(1:Int)) then
 qaQ (128:Int)
 else
 bif (charset0==(2:Int)) then
 bif (charset0==(2:Int)) then
 qaQ (256:Int)
 else
 bif (charset0==(4:Int)) then
 qaQ (251:Int)
 else
 bif (charset0==(5:Int)) then
 qaQ (1112064:Int)
 else
 qaQ (0:Int)
 else
 bif (charset0==(3:Int)) then
 qaQ (256:Int)
 else
 bif (charset0==(4:Int)) then
 qaQ (251:Int)
 else
 bif (charset0==(5:Int)) then
 qaQ (1112064:Int)
 else
 qaQ (0:Int)
def qvu (s2:Bool):Option AV:=some (.dat .bool s2 none)
def qBE (_n:Nat) (c0:Int):Option AV :=
 qvu (decide ((IntKind.wrap .u32 c0) < (256:Int)))
def qvv (s0:List (UInt8×(Int×Unit))):Option AV:=some (.dat (.arr 8 (.pair .byte (.pair (.int .i32) .unit))) s0 none)
def qBF (_n:Nat):Option AV :=
 qvv ([((164:UInt8),((8364:Int),())),((166:UInt8),((352:Int),())),((168:UInt8),((353:Int),())),((180:UInt8),((381:Int),())),((184:UInt8),((382:Int),())),((188:UInt8),((338:Int),())),((189:UInt8),((339:Int),())),((190:UInt8),((376:Int),()))]:List (UInt8×(Int×Unit)))
def qbz (s2:UInt8) (s3:Bool):Option AV:=some (.tup [(.dat .byte s2 none),(.dat .bool s3 none)])
def qpn (ret:UInt8→Bool→Option AV) (k0:Int→Option AV) (next:Int→List (UInt8×(Int×Unit))→Int→Option AV) (_n:Nat) (c0:Int) (s6:List (UInt8×(Int×Unit))) (s7:Int):Option AV :=
 bif (decide (s7 < (8:Int))) then
 bif ((decide ((0:Int)≤s7))&&(decide (s7 < (8:Nat)))) then
 bif (c0==(List.getD s6 (Int.toNat s7) ((0:UInt8),((0:Int),()))).2.1) then
 ret (List.getD s6 (Int.toNat s7) ((0:UInt8),((0:Int),()))).1 true
 else
 bif (c0==(IntKind.wrap .i32 ((UInt8.toNat (List.getD s6 (Int.toNat s7) ((0:UInt8),((0:Int),()))).1:Nat):Int))) then
 ret (0:UInt8) false
 else
 next c0 s6 (IntKind.wrap .i64 (s7+(1:Int)))
 else none
 else
 k0 c0
def qhv (ret:UInt8→Bool→Option AV) (k0:Int→Option AV):Nat→Int→List (UInt8×(Int×Unit))→Int→Option AV
 | 0=>fun _ _ _=>none
 | n+1=>qpn ret k0 (qhv ret k0 n) n
def qbO (_n:Nat) (c0:Int):Option AV :=
 bif (decide (c0 < (0:Int))) then
 qbz (0:UInt8) false
 else
 bif (decide ((256:Int)≤c0)) then
 qbz (0:UInt8) false
 else
 qbz (UInt8.ofNat (Int.toNat (IntKind.wrap .u8 c0))) true
def qvw (n:Nat) (c0:Int):Option AV :=
 qhv qbz (qbO n) n c0 z185 (0:Int)
def qvx (s2:Bool):Option AV:=some (.dat .bool s2 none)
def qBG (_n:Nat) (c0:Int):Option AV :=
 qvx ((z205 c0).2)
def qvy (s0:List Int):Option AV:=some (.dat (.sl (.int .i32)) s0 none)
def qBH (_n:Nat):Option AV :=
 qvy (List.drop 0 (List.take 32 ([(8364:Int),(0:Int),(8218:Int),(402:Int),(8222:Int),(8230:Int),(8224:Int),(8225:Int),(710:Int),(8240:Int),(352:Int),(8249:Int),(338:Int),(0:Int),(381:Int),(0:Int),(0:Int),(8216:Int),(8217:Int),(8220:Int),(8221:Int),(8226:Int),(8211:Int),(8212:Int),(732:Int),(8482:Int),(353:Int),(8250:Int),(339:Int),(0:Int),(382:Int),(376:Int)]:List Int)))
def qgh (s4:Int):Option AV:=some (.dat (.int .i64) s4 none)
def qbP (ret:Int→Option AV) (k0:Option AV) (next:List Int→Int→Int→Int→Option AV) (_n:Nat) (s0:List Int) (v1:Int) (s7:Int) (s8:Int):Option AV :=
 bif (decide (s8 < s7)) then
 bif ((decide ((0:Int)≤s8))&&(decide (s8 < (List.length s0:Nat)))) then
 bif (v1==(List.getD s0 (Int.toNat s8) (0:Int))) then
 ret s8
 else
 next s0 v1 s7 (IntKind.wrap .i64 (s8+(1:Int)))
 else none
 else
 k0
def qgi (ret:Int→Option AV) (k0:Option AV):Nat→List Int→Int→Int→Int→Option AV
 | 0=>fun _ _ _ _=>none
 | n+1=>qbP ret k0 (qgi ret k0 n) n
def qdl (_n:Nat):Option AV :=
 qgh (-1:Int)
def qpo (n:Nat) (s0:List Int) (v1:Int):Option AV :=
 qgi qgh (qdl n) n s0 v1 ((List.length s0:Nat):Int) (0:Int)
def qH (s2:UInt8) (s3:Bool):Option AV:=some (.tup [(.dat .byte s2 none),(.dat .bool s3 none)])
def qvz (_n:Nat) (c0:Int):Option AV :=
 bif (decide ((0:Int)≤c0)) then
 bif (decide (c0 < (128:Int))) then
 bif (decide (c0 < (128:Int))) then
 qH (UInt8.ofNat (Int.toNat (IntKind.wrap .u8 c0))) true
 else
 bif (decide (c0 < (256:Int))) then
 qH (0:UInt8) false
 else
 bif ((qeL z186 c0)&&true) then
 bif (decide ((z233 z186 c0) < (0:Int))) then
 qH (0:UInt8) false
 else
 qH (UInt8.ofNat (Int.toNat (IntKind.wrap .u8 (IntKind.wrap .i64 ((128:Int)+(z233 z186 c0)))))) true
 else none
 else
 bif (decide ((160:Int)≤c0)) then
 bif (decide (c0 < (256:Int))) then
 qH (UInt8.ofNat (Int.toNat (IntKind.wrap .u8 c0))) true
 else
 bif (decide (c0 < (256:Int))) then
 qH (0:UInt8) false
 else
 bif ((qeL z186 c0)&&true) then
 bif (decide ((z233 z186 c0) < (0:Int))) then
 qH (0:UInt8) false
 else
 qH (UInt8.ofNat (Int.toNat (IntKind.wrap .u8 (IntKind.wrap .i64 ((128:Int)+(z233 z186 c0)))))) true
 else none
 else
 bif (decide (c0 < (256:Int))) then
 qH (0:UInt8) false
 else
 bif ((qeL z186 c0)&&true) then
 bif (decide ((z233 z186 c0) < (0:Int))) then
 qH (0:UInt8) false
 else
 qH (UInt8.ofNat (Int.toNat (IntKind.wrap .u8 (IntKind.wrap .i64 ((128:Int)+(z233 z186 c0)))))) true
 else none
 else
 bif (decide ((160:Int)≤c0)) then
 bif (decide (c0 < (256:Int))) then
 qH (UInt8.ofNat (Int.toNat (IntKind.wrap .u8 c0))) true
 else
 bif (decide (c0 < (256:Int))) then
 qH (0:UInt8) false
 else
 bif ((qeL z186 c0)&&true) then
 bif (decide ((z233 z186 c0) < (0:Int))) then
 qH (0:UInt8) false
 else
 qH (UInt8.ofNat (Int.toNat (IntKind.wrap .u8 (IntKind.wrap .i64 ((128:Int)+(z233 z186 c0)))))) true
 else none
 else
 bif (decide (c0 < (256:Int))) then
 qH (0:UInt8) false
 else
 bif ((qeL z186 c0)&&true) then
 bif (decide ((z233 z186 c0) < (0:Int))) then
 qH (0:UInt8) false
 else
 qH (UInt8.ofNat (Int.toNat (IntKind.wrap .u8 (IntKind.wrap .i64 ((128:Int)+(z233 z186 c0)))))) true
 else none
def qvA (s2:Bool):Option AV:=some (.dat .bool s2 none)
def qBI (_n:Nat) (c0:Int):Option AV :=
 qvA ((z207 c0).2)
def qmG (s2:Bool):Option AV:=some (.dat .bool s2 none)
def qvB (_n:Nat) (c0:Int):Option AV :=
 bif (decide ((55296:Int)≤c0)) then
 qmG (decide (c0≤(57343:Int)))
 else
 qmG false
def qmH (s2:Bool):Option AV:=some (.dat .bool s2 none)
def qvC (_n:Nat) (c0:Int):Option AV :=
 bif (decide ((IntKind.wrap .u32 c0)≤(1114111:Int))) then
 qmH (!(z230 c0))
 else
 qmH false
def qbA (s4:Bool):Option AV:=some (.dat .bool s4 none)
def qvD (_n:Nat) (charset0:Int) (c1:Int):Option AV :=
 bif (charset0==(1:Int)) then
 bif (decide ((0:Int)≤c1)) then
 qbA (decide (c1 < (128:Int)))
 else
 qbA false
 else
 bif (charset0==(2:Int)) then
 qbA (z196 c1)
 else
 bif (charset0==(3:Int)) then
 qbA (z197 c1)
 else
 bif (charset0==(4:Int)) then
 qbA (z198 c1)
 else
 bif (charset0==(5:Int)) then
 qbA (z199 c1)
 else
 qbA false
def qgj (s4:Int):Option AV:=some (.dat (.int .i64) s4 none)
def qbQ (ret:Int→Option AV) (k0:Option AV) (next:Int→List Int→Int→Int→Option AV) (_n:Nat) (charset0:Int) (s7:List Int) (s8:Int) (s9:Int):Option AV :=
 bif (decide (s9 < s8)) then
 bif ((decide ((0:Int)≤s9))&&(decide (s9 < (List.length s7:Nat)))) then
 bif (!(z157 charset0 (List.getD s7 (Int.toNat s9) (0:Int)))) then
 ret s9
 else
 next charset0 s7 s8 (IntKind.wrap .i64 (s9+(1:Int)))
 else none
 else
 k0
def qgk (ret:Int→Option AV) (k0:Option AV):Nat→Int→List Int→Int→Int→Option AV
 | 0=>fun _ _ _ _=>none
 | n+1=>qbQ ret k0 (qgk ret k0 n) n
def qdm (_n:Nat):Option AV :=
 qgj (-1:Int)
def qpp (n:Nat) (charset0:Int) (t1:List Int):Option AV :=
 qgk qgj (qdm n) n charset0 t1 ((List.length t1:Nat):Int) (0:Int)
def qmI (s4:Bool):Option AV:=some (.dat .bool s4 none)
def qvE (_n:Nat) (charset0:Int) (t1:List Int):Option AV :=
 bif (decide ((0:Int) < (z161 charset0))) then
 bif ((qqo charset0 t1)&&true) then
 qmI ((z202 charset0 t1)==(-1:Int))
 else none
 else
 qmI false
def qvF (s2:Bool):Option AV:=some (.dat .bool s2 none)
def qBJ (_n:Nat) (c0:Int):Option AV :=
 qvF (!(z199 c0))
def qgl (s4:Int):Option AV:=some (.dat (.int .i64) s4 none)
def qbR (ret:Int→Option AV) (k0:Option AV) (next:List Int→Int→Int→Option AV) (_n:Nat) (s0:List Int) (s7:Int) (s8:Int):Option AV :=
 bif (decide (s8 < s7)) then
 bif ((decide ((0:Int)≤s8))&&(decide (s8 < (List.length s0:Nat)))) then
 bif (z243 (List.getD s0 (Int.toNat s8) (0:Int))) then
 ret s8
 else
 next s0 s7 (IntKind.wrap .i64 (s8+(1:Int)))
 else none
 else
 k0
def qgm (ret:Int→Option AV) (k0:Option AV):Nat→List Int→Int→Int→Option AV
 | 0=>fun _ _ _=>none
 | n+1=>qbR ret k0 (qgm ret k0 n) n
def qdn (_n:Nat):Option AV :=
 qgl (-1:Int)
def qpq (n:Nat) (s0:List Int):Option AV :=
 qgm qgl (qdn n) n s0 ((List.length s0:Nat):Int) (0:Int)
def qvG (s2:Int):Option AV:=some (.dat (.int .i64) s2 none)
def qvH (_n:Nat) (t0:List Int):Option AV :=
 bif ((qqe t0)&&true) then
 qvG (z242 t0)
 else none
def qvI (s2:Bool):Option AV:=some (.dat .bool s2 none)
def qvJ (_n:Nat) (t0:List Int):Option AV :=
 bif ((qqf t0)&&true) then
 qvI ((z231 t0)==(-1:Int))
 else none
def qgn (s2:UInt8):Option AV:=some (.dat .byte s2 none)
def qvK (_n:Nat) (n0:Int):Option AV :=
 bif (n0==(2:Int)) then
 qgn (192:UInt8)
 else
 bif (n0==(3:Int)) then
 qgn (224:UInt8)
 else
 bif (n0==(4:Int)) then
 qgn (240:UInt8)
 else
 qgn (0:UInt8)
def qea (s2:Int):Option AV:=some (.dat (.int .i64) s2 none)
def qvL (_n:Nat) (c0:Int):Option AV :=
 bif (!(z199 c0)) then
 qea (0:Int)
 else
 bif (decide (c0 < (128:Int))) then
 qea (1:Int)
 else
 bif (decide (c0 < (2048:Int))) then
 qea (2:Int)
 else
 bif (decide (c0 < (65536:Int))) then
 qea (3:Int)
 else
 qea (4:Int)
def qeb (s4:List UInt8) (s5:Int):Option AV:=some (.tup [(.dat (.sl .byte) s4 none),(.dat (.int .i64) s5 none)])
def qvM (_n:Nat) (b0:List UInt8) (c1:Int):Option AV :=
 bif ((z232 c1)==(0:Int)) then
 qeb ([]:List UInt8) (7:Int)
 else
 bif (decide ((0:Int)≤(IntKind.wrap .i64 ((6:Int)*(IntKind.wrap .i64 ((z232 c1) - (1:Int))))))) then
 bif ((qxl b0)&&true) then
 bif (decide (List.length (z38 b0)+List.length ([((z218 (z232 c1)) ||| (UInt8.ofNat (Int.toNat (IntKind.wrap .u8 (Int.fdiv c1 (2 ^ (min (Int.toNat (IntKind.wrap .i64 ((6:Int)*(IntKind.wrap .i64 ((z232 c1) - (1:Int)))))) (IntKind.bits .i32))))))))]:List UInt8)≤room)) then
 bif ((z232 c1)==(4:Int)) then
 bif (decide (List.length ((z38 b0)++([((z218 (z232 c1)) ||| (UInt8.ofNat (Int.toNat (IntKind.wrap .u8 (Int.fdiv c1 (2 ^ (min (Int.toNat (IntKind.wrap .i64 ((6:Int)*(IntKind.wrap .i64 ((z232 c1) - (1:Int)))))) (IntKind.bits .i32))))))))]:List UInt8))+List.length ([((128:UInt8) ||| ((UInt8.ofNat (Int.toNat (IntKind.wrap .u8 (Int.fdiv c1 (2 ^ (min (Int.toNat (12:Int)) (IntKind.bits .i32))))))) &&& (63:UInt8)))]:List UInt8)≤room)) then
 bif (decide (List.length (((z38 b0)++([((z218 (z232 c1)) ||| (UInt8.ofNat (Int.toNat (IntKind.wrap .u8 (Int.fdiv c1 (2 ^ (min (Int.toNat (IntKind.wrap .i64 ((6:Int)*(IntKind.wrap .i64 ((z232 c1) - (1:Int)))))) (IntKind.bits .i32))))))))]:List UInt8))++([((128:UInt8) ||| ((UInt8.ofNat (Int.toNat (IntKind.wrap .u8 (Int.fdiv c1 (2 ^ (min (Int.toNat (12:Int)) (IntKind.bits .i32))))))) &&& (63:UInt8)))]:List UInt8))+List.length ([((128:UInt8) ||| ((UInt8.ofNat (Int.toNat (IntKind.wrap .u8 (Int.fdiv c1 (2 ^ (min (Int.toNat (6:Int)) (IntKind.bits .i32))))))) &&& (63:UInt8)))]:List UInt8)≤room)) then
 bif (decide (List.length ((((z38 b0)++([((z218 (z232 c1)) ||| (UInt8.ofNat (Int.toNat (IntKind.wrap .u8 (Int.fdiv c1 (2 ^ (min (Int.toNat (IntKind.wrap .i64 ((6:Int)*(IntKind.wrap .i64 ((z232 c1) - (1:Int)))))) (IntKind.bits .i32))))))))]:List UInt8))++([((128:UInt8) ||| ((UInt8.ofNat (Int.toNat (IntKind.wrap .u8 (Int.fdiv c1 (2 ^ (min (Int.toNat (12:Int)) (IntKind.bits .i32))))))) &&& (63:UInt8)))]:List UInt8))++([((128:UInt8) ||| ((UInt8.ofNat (Int.toNat (IntKind.wrap .u8 (Int.fdiv c1 (2 ^ (min (Int.toNat (6:Int)) (IntKind.bits .i32))))))) &&& (63:UInt8)))]:List UInt8))+List.length ([((128:UInt8) ||| ((UInt8.ofNat (Int.toNat (IntKind.wrap .u8 c1))) &&& (63:UInt8)))]:List UInt8)≤room)) then
 qeb (((((z38 b0)++([((z218 (z232 c1)) ||| (UInt8.ofNat (Int.toNat (IntKind.wrap .u8 (Int.fdiv c1 (2 ^ (min (Int.toNat (IntKind.wrap .i64 ((6:Int)*(IntKind.wrap .i64 ((z232 c1) - (1:Int)))))) (IntKind.bits .i32))))))))]:List UInt8))++([((128:UInt8) ||| ((UInt8.ofNat (Int.toNat (IntKind.wrap .u8 (Int.fdiv c1 (2 ^ (min (Int.toNat (12:Int)) (IntKind.bits .i32))))))) &&& (63:UInt8)))]:List UInt8))++([((128:UInt8) ||| ((UInt8.ofNat (Int.toNat (IntKind.wrap .u8 (Int.fdiv c1 (2 ^ (min (Int.toNat (6:Int)) (IntKind.bits .i32))))))) &&& (63:UInt8)))]:List UInt8))++([((128:UInt8) ||| ((UInt8.ofNat (Int.toNat (IntKind.wrap .u8 c1))) &&& (63:UInt8)))]:List UInt8)) (0:Int)
 else none
 else none
 else none
 else
 bif ((z232 c1)==(3:Int)) then
 bif (decide (List.length ((z38 b0)++([((z218 (z232 c1)) ||| (UInt8.ofNat (Int.toNat (IntKind.wrap .u8 (Int.fdiv c1 (2 ^ (min (Int.toNat (IntKind.wrap .i64 ((6:Int)*(IntKind.wrap .i64 ((z232 c1) - (1:Int)))))) (IntKind.bits .i32))))))))]:List UInt8))+List.length ([((128:UInt8) ||| ((UInt8.ofNat (Int.toNat (IntKind.wrap .u8 (Int.fdiv c1 (2 ^ (min (Int.toNat (6:Int)) (IntKind.bits .i32))))))) &&& (63:UInt8)))]:List UInt8)≤room)) then
 bif (decide (List.length (((z38 b0)++([((z218 (z232 c1)) ||| (UInt8.ofNat (Int.toNat (IntKind.wrap .u8 (Int.fdiv c1 (2 ^ (min (Int.toNat (IntKind.wrap .i64 ((6:Int)*(IntKind.wrap .i64 ((z232 c1) - (1:Int)))))) (IntKind.bits .i32))))))))]:List UInt8))++([((128:UInt8) ||| ((UInt8.ofNat (Int.toNat (IntKind.wrap .u8 (Int.fdiv c1 (2 ^ (min (Int.toNat (6:Int)) (IntKind.bits .i32))))))) &&& (63:UInt8)))]:List UInt8))+List.length ([((128:UInt8) ||| ((UInt8.ofNat (Int.toNat (IntKind.wrap .u8 c1))) &&& (63:UInt8)))]:List UInt8)≤room)) then
 qeb ((((z38 b0)++([((z218 (z232 c1)) ||| (UInt8.ofNat (Int.toNat (IntKind.wrap .u8 (Int.fdiv c1 (2 ^ (min (Int.toNat (IntKind.wrap .i64 ((6:Int)*(IntKind.wrap .i64 ((z232 c1) - (1:Int)))))) (IntKind.bits .i32))))))))]:List UInt8))++([((128:UInt8) ||| ((UInt8.ofNat (Int.toNat (IntKind.wrap .u8 (Int.fdiv c1 (2 ^ (min (Int.toNat (6:Int)) (IntKind.bits .i32))))))) &&& (63:UInt8)))]:List UInt8))++([((128:UInt8) ||| ((UInt8.ofNat (Int.toNat (IntKind.wrap .u8 c1))) &&& (63:UInt8)))]:List UInt8)) (0:Int)
 else none
 else none
 else
 bif ((z232 c1)==(2:Int)) then
 bif (decide (List.length ((z38 b0)++([((z218 (z232 c1)) ||| (UInt8.ofNat (Int.toNat (IntKind.wrap .u8 (Int.fdiv c1 (2 ^ (min (Int.toNat (IntKind.wrap .i64 ((6:Int)*(IntKind.wrap .i64 ((z232 c1) - (1:Int)))))) (IntKind.bits .i32))))))))]:List UInt8))+List.length ([((128:UInt8) ||| ((UInt8.ofNat (Int.toNat (IntKind.wrap .u8 c1))) &&& (63:UInt8)))]:List UInt8)≤room)) then
 qeb (((z38 b0)++([((z218 (z232 c1)) ||| (UInt8.ofNat (Int.toNat (IntKind.wrap .u8 (Int.fdiv c1 (2 ^ (min (Int.toNat (IntKind.wrap .i64 ((6:Int)*(IntKind.wrap .i64 ((z232 c1) - (1:Int)))))) (IntKind.bits .i32))))))))]:List UInt8))++([((128:UInt8) ||| ((UInt8.ofNat (Int.toNat (IntKind.wrap .u8 c1))) &&& (63:UInt8)))]:List UInt8)) (0:Int)
 else none
 else
 qeb ((z38 b0)++([((z218 (z232 c1)) ||| (UInt8.ofNat (Int.toNat (IntKind.wrap .u8 (Int.fdiv c1 (2 ^ (min (Int.toNat (IntKind.wrap .i64 ((6:Int)*(IntKind.wrap .i64 ((z232 c1) - (1:Int)))))) (IntKind.bits .i32))))))))]:List UInt8)) (0:Int)
 else none
 else none
 else none
def qmJ (s2:List UInt8) (s3:Int):Option AV:=some (.tup [(.dat (.sl .byte) s2 none),(.dat (.int .i64) s3 none)])
def qbS (k0:List UInt8→Option AV) (next:List UInt8→List Int→Int→Int→Option AV) (_n:Nat) (out4:List UInt8) (s12:List Int) (s13:Int) (s14:Int):Option AV :=
 bif (decide (s14 < s13)) then
 bif ((decide ((0:Int)≤s14))&&(decide (s14 < (List.length s12:Nat)))) then
 bif ((qqh ([]:List UInt8) (List.getD s12 (Int.toNat s14) (0:Int)))&&true) then
 bif (decide (List.length out4+List.length ((z204 ([]:List UInt8) (List.getD s12 (Int.toNat s14) (0:Int))).1)≤room)) then
 next (out4++((z204 ([]:List UInt8) (List.getD s12 (Int.toNat s14) (0:Int))).1)) s12 s13 (IntKind.wrap .i64 (s14+(1:Int)))
 else none
 else none
 else none
 else
 k0 out4
def qgo (k0:List UInt8→Option AV):Nat→List UInt8→List Int→Int→Int→Option AV
 | 0=>fun _ _ _ _=>none
 | n+1=>qbS k0 (qgo k0 n) n
def qbT (_n:Nat) (out4:List UInt8):Option AV :=
 qmJ out4 (0:Int)
def qpr (n:Nat) (t0:List Int):Option AV :=
 bif ((qqg t0)&&true) then
 bif (!(z203 t0)) then
 qmJ ([]:List UInt8) (7:Int)
 else
 qgo (qbT n) n ([]:List UInt8) t0 ((List.length t0:Nat):Int) (0:Int)
 else none
def qec (s2:List UInt8) (s3:Int):Option AV:=some (.tup [(.dat (.sl .byte) s2 none),(.dat (.int .i64) s3 none)])
def qbU (ret:List UInt8→Int→Option AV) (k0:List UInt8→Option AV) (next:List UInt8→List Int→Int→Int→Option AV) (_n:Nat) (s4:List UInt8) (s9:List Int) (s10:Int) (s11:Int):Option AV :=
 bif (decide (s11 < s10)) then
 bif ((decide ((0:Int)≤s11))&&(decide (s11 < (List.length s9:Nat)))) then
 bif (!((z205 (List.getD s9 (Int.toNat s11) (0:Int))).2)) then
 ret ([]:List UInt8) (9:Int)
 else
 bif (decide (List.length s4+List.length ([((z205 (List.getD s9 (Int.toNat s11) (0:Int))).1)]:List UInt8)≤room)) then
 next (s4++([((z205 (List.getD s9 (Int.toNat s11) (0:Int))).1)]:List UInt8)) s9 s10 (IntKind.wrap .i64 (s11+(1:Int)))
 else none
 else none
 else
 k0 s4
def qgp (ret:List UInt8→Int→Option AV) (k0:List UInt8→Option AV):Nat→List UInt8→List Int→Int→Int→Option AV
 | 0=>fun _ _ _ _=>none
 | n+1=>qbU ret k0 (qgp ret k0 n) n
def qbV (_n:Nat) (s4:List UInt8):Option AV :=
 qec s4 (0:Int)
def qps (n:Nat) (t0:List Int):Option AV :=
 qgp qec (qbV n) n ([]:List UInt8) t0 ((List.length t0:Nat):Int) (0:Int)
def qgq (s2:Int):Option AV:=some (.dat (.int .i64) s2 none)
def qbW (ret:Int→Option AV) (k0:Option AV) (next:List Int→Int→Int→Option AV) (_n:Nat) (s5:List Int) (s6:Int) (s7:Int):Option AV :=
 bif (decide (s7 < s6)) then
 bif ((decide ((0:Int)≤s7))&&(decide (s7 < (List.length s5:Nat)))) then
 bif (!(z198 (List.getD s5 (Int.toNat s7) (0:Int)))) then
 ret s7
 else
 next s5 s6 (IntKind.wrap .i64 (s7+(1:Int)))
 else none
 else
 k0
def qgr (ret:Int→Option AV) (k0:Option AV):Nat→List Int→Int→Int→Option AV
 | 0=>fun _ _ _=>none
 | n+1=>qbW ret k0 (qgr ret k0 n) n
def qdo (_n:Nat):Option AV :=
 qgq (-1:Int)
def qpt (n:Nat) (t0:List Int):Option AV :=
 qgr qgq (qdo n) n t0 ((List.length t0:Nat):Int) (0:Int)
def qmK (s2:List UInt8) (s3:Int):Option AV:=some (.tup [(.dat (.sl .byte) s2 none),(.dat (.int .i64) s3 none)])
def qbX (k0:List UInt8→Option AV) (next:List UInt8→List Int→Int→Int→Option AV) (_n:Nat) (s4:List UInt8) (s15:List Int) (s16:Int) (s17:Int):Option AV :=
 bif (decide (s17 < s16)) then
 bif ((decide ((0:Int)≤s17))&&(decide (s17 < (List.length s15:Nat)))) then
 bif (decide (List.length s4+List.length ([((z207 (List.getD s15 (Int.toNat s17) (0:Int))).1)]:List UInt8)≤room)) then
 next (s4++([((z207 (List.getD s15 (Int.toNat s17) (0:Int))).1)]:List UInt8)) s15 s16 (IntKind.wrap .i64 (s17+(1:Int)))
 else none
 else none
 else
 k0 s4
def qgs (k0:List UInt8→Option AV):Nat→List UInt8→List Int→Int→Int→Option AV
 | 0=>fun _ _ _ _=>none
 | n+1=>qbX k0 (qgs k0 n) n
def qbY (_n:Nat) (s4:List UInt8):Option AV :=
 qmK s4 (0:Int)
def qpu (n:Nat) (t0:List Int):Option AV :=
 bif ((qqi t0)&&true) then
 bif (decide ((0:Int)≤(z206 t0))) then
 qmK ([]:List UInt8) (9:Int)
 else
 bif (((decide ((0:Int)≤(0:Int)))&&(decide ((0:Int)≤((List.length t0:Nat):Int))))&&(decide (((List.length t0:Nat):Int)≤(room:Int)))) then
 qgs (qbY n) n (List.replicate (Int.toNat (0:Int)) (0:UInt8)) t0 ((List.length t0:Nat):Int) (0:Int)
 else none
 else none
def qgt (s2:Int):Option AV:=some (.dat (.int .i64) s2 none)
def qbZ (ret:Int→Option AV) (k0:Option AV) (next:List Int→Int→Int→Option AV) (_n:Nat) (t0:List Int) (s5:Int) (s6:Int):Option AV :=
 bif (decide (s6 < s5)) then
 bif ((decide ((0:Int)≤s6))&&(decide (s6 < (List.length t0:Nat)))) then
 bif (!(z196 (List.getD t0 (Int.toNat s6) (0:Int)))) then
 ret s6
 else
 next t0 s5 (IntKind.wrap .i64 (s6+(1:Int)))
 else none
 else
 k0
def qgu (ret:Int→Option AV) (k0:Option AV):Nat→List Int→Int→Int→Option AV
 | 0=>fun _ _ _=>none
 | n+1=>qbZ ret k0 (qgu ret k0 n) n
def qdp (_n:Nat):Option AV :=
 qgt (-1:Int)
def qpv (n:Nat) (t0:List Int):Option AV :=
 qgu qgt (qdp n) n t0 ((List.length t0:Nat):Int) (0:Int)
def qmL (s2:List UInt8) (s3:Int):Option AV:=some (.tup [(.dat (.sl .byte) s2 none),(.dat (.int .i64) s3 none)])
def qca (k0:List UInt8→Option AV) (next:List UInt8→List Int→Int→Int→Option AV) (_n:Nat) (s4:List UInt8) (s13:List Int) (s14:Int) (s15:Int):Option AV :=
 bif (decide (s15 < s14)) then
 bif ((decide ((0:Int)≤s15))&&(decide (s15 < (List.length s13:Nat)))) then
 bif ((decide ((0:Int)≤s15))&&(decide (s15 < (List.length s4:Nat)))) then
 next (List.set s4 (Int.toNat s15) (UInt8.ofNat (Int.toNat (IntKind.wrap .u8 (List.getD s13 (Int.toNat s15) (0:Int)))))) s13 s14 (IntKind.wrap .i64 (s15+(1:Int)))
 else none
 else none
 else
 k0 s4
def qdq (k0:List UInt8→Option AV):Nat→List UInt8→List Int→Int→Int→Option AV
 | 0=>fun _ _ _ _=>none
 | n+1=>qca k0 (qdq k0 n) n
def qcb (_n:Nat) (s4:List UInt8):Option AV :=
 qmL s4 (0:Int)
def qpw (n:Nat) (t0:List Int):Option AV :=
 bif ((qqj t0)&&true) then
 bif ((z208 t0) != (-1:Int)) then
 qmL ([]:List UInt8) (9:Int)
 else
 bif (((decide ((0:Int)≤((List.length t0:Nat):Int)))&&(decide (((List.length t0:Nat):Int)≤((List.length t0:Nat):Int))))&&(decide (((List.length t0:Nat):Int)≤(room:Int)))) then
 qdq (qcb n) n (List.replicate (Int.toNat ((List.length t0:Nat):Int)) (0:UInt8)) t0 ((List.length t0:Nat):Int) (0:Int)
 else none
 else none
def qcA (s4:List UInt8) (s5:Int):Option AV:=some (.tup [(.dat (.sl .byte) s4 none),(.dat (.int .i64) s5 none)])
def qvN (_n:Nat) (charset0:Int) (t1:List Int):Option AV :=
 bif ((z161 charset0)==(0:Int)) then
 qcA ([]:List UInt8) (10:Int)
 else
 bif ((qqp charset0 t1)&&true) then
 bif (!(z162 charset0 t1)) then
 qcA ([]:List UInt8) (9:Int)
 else
 bif (charset0==(5:Int)) then
 bif ((qqn t1)&&true) then
 qcA ((z163 t1).1) ((z163 t1).2)
 else none
 else
 bif (charset0==(3:Int)) then
 bif ((qql t1)&&true) then
 qcA ((z164 t1).1) ((z164 t1).2)
 else none
 else
 bif (charset0==(4:Int)) then
 bif ((qqm t1)&&true) then
 qcA ((z165 t1).1) ((z165 t1).2)
 else none
 else
 bif ((qqk t1)&&true) then
 qcA ((z166 t1).1) ((z166 t1).2)
 else none
 else none
def qf (s2:Int):Option AV:=some (.dat (.int .i64) s2 none)
def qvO (_n:Nat) (c0:UInt8):Option AV :=
 bif (decide (c0 < (32:UInt8))) then
 bif (c0==(32:UInt8)) then
 qf (bits .or .i64 (bits .or .i64 (0:Int) (1:Int)) (2:Int))
 else
 bif (c0==(9:UInt8)) then
 qf (bits .or .i64 (bits .or .i64 (0:Int) (1:Int)) (2:Int))
 else
 bif (decide ((48:UInt8)≤c0)) then
 bif (decide (c0≤(57:UInt8))) then
 qf (bits .or .i64 (bits .or .i64 (0:Int) (1:Int)) (648:Int))
 else
 bif (decide ((65:UInt8)≤c0)) then
 bif (decide (c0≤(90:UInt8))) then
 bif (decide (c0≤(90:UInt8))) then
 qf (bits .or .i64 (bits .or .i64 (0:Int) (1:Int)) (656:Int))
 else
 qf (bits .or .i64 (0:Int) (1:Int))
 else
 bif (decide ((97:UInt8)≤c0)) then
 bif (decide (c0≤(122:UInt8))) then
 qf (bits .or .i64 (bits .or .i64 (0:Int) (1:Int)) (656:Int))
 else
 qf (bits .or .i64 (0:Int) (1:Int))
 else
 qf (bits .or .i64 (0:Int) (1:Int))
 else
 bif (decide ((97:UInt8)≤c0)) then
 bif (decide (c0≤(122:UInt8))) then
 qf (bits .or .i64 (bits .or .i64 (0:Int) (1:Int)) (656:Int))
 else
 qf (bits .or .i64 (0:Int) (1:Int))
 else
 qf (bits .or .i64 (0:Int) (1:Int))
 else
 bif (decide ((65:UInt8)≤c0)) then
 bif (decide (c0≤(90:UInt8))) then
 bif (decide (c0≤(90:UInt8))) then
 qf (bits .or .i64 (bits .or .i64 (0:Int) (1:Int)) (656:Int))
 else
 qf (bits .or .i64 (0:Int) (1:Int))
 else
 bif (decide ((97:UInt8)≤c0)) then
 bif (decide (c0≤(122:UInt8))) then
 qf (bits .or .i64 (bits .or .i64 (0:Int) (1:Int)) (656:Int))
 else
 qf (bits .or .i64 (0:Int) (1:Int))
 else
 qf (bits .or .i64 (0:Int) (1:Int))
 else
 bif (decide ((97:UInt8)≤c0)) then
 bif (decide (c0≤(122:UInt8))) then
 qf (bits .or .i64 (bits .or .i64 (0:Int) (1:Int)) (656:Int))
 else
 qf (bits .or .i64 (0:Int) (1:Int))
 else
 qf (bits .or .i64 (0:Int) (1:Int))
 else
 bif (c0==(127:UInt8)) then
 bif (c0==(32:UInt8)) then
 qf (bits .or .i64 (bits .or .i64 (0:Int) (1:Int)) (2:Int))
 else
 bif (c0==(9:UInt8)) then
 qf (bits .or .i64 (bits .or .i64 (0:Int) (1:Int)) (2:Int))
 else
 bif (decide ((48:UInt8)≤c0)) then
 bif (decide (c0≤(57:UInt8))) then
 qf (bits .or .i64 (bits .or .i64 (0:Int) (1:Int)) (648:Int))
 else
 bif (decide ((65:UInt8)≤c0)) then
 bif (decide (c0≤(90:UInt8))) then
 bif (decide (c0≤(90:UInt8))) then
 qf (bits .or .i64 (bits .or .i64 (0:Int) (1:Int)) (656:Int))
 else
 qf (bits .or .i64 (0:Int) (1:Int))
 else
 bif (decide ((97:UInt8)≤c0)) then
 bif (decide (c0≤(122:UInt8))) then
 qf (bits .or .i64 (bits .or .i64 (0:Int) (1:Int)) (656:Int))
 else
 qf (bits .or .i64 (0:Int) (1:Int))
 else
 qf (bits .or .i64 (0:Int) (1:Int))
 else
 bif (decide ((97:UInt8)≤c0)) then
 bif (decide (c0≤(122:UInt8))) then
 qf (bits .or .i64 (bits .or .i64 (0:Int) (1:Int)) (656:Int))
 else
 qf (bits .or .i64 (0:Int) (1:Int))
 else
 qf (bits .or .i64 (0:Int) (1:Int))
 else
 bif (decide ((65:UInt8)≤c0)) then
 bif (decide (c0≤(90:UInt8))) then
 bif (decide (c0≤(90:UInt8))) then
 qf (bits .or .i64 (bits .or .i64 (0:Int) (1:Int)) (656:Int))
 else
 qf (bits .or .i64 (0:Int) (1:Int))
 else
 bif (decide ((97:UInt8)≤c0)) then
 bif (decide (c0≤(122:UInt8))) then
 qf (bits .or .i64 (bits .or .i64 (0:Int) (1:Int)) (656:Int))
 else
 qf (bits .or .i64 (0:Int) (1:Int))
 else
 qf (bits .or .i64 (0:Int) (1:Int))
 else
 bif (decide ((97:UInt8)≤c0)) then
 bif (decide (c0≤(122:UInt8))) then
 qf (bits .or .i64 (bits .or .i64 (0:Int) (1:Int)) (656:Int))
 else
 qf (bits .or .i64 (0:Int) (1:Int))
 else
 qf (bits .or .i64 (0:Int) (1:Int))
 else
 bif (c0==(32:UInt8)) then
 qf (bits .or .i64 (0:Int) (2:Int))
 else
 bif (c0==(9:UInt8)) then
 qf (bits .or .i64 (0:Int) (2:Int))
 else
 bif (decide ((48:UInt8)≤c0)) then
 bif (decide (c0≤(57:UInt8))) then
 qf (bits .or .i64 (0:Int) (648:Int))
 else
 bif (decide ((65:UInt8)≤c0)) then
 bif (decide (c0≤(90:UInt8))) then
 bif (decide (c0≤(90:UInt8))) then
 qf (bits .or .i64 (0:Int) (656:Int))
 else
 qf (0:Int)
 else
 bif (decide ((97:UInt8)≤c0)) then
 bif (decide (c0≤(122:UInt8))) then
 qf (bits .or .i64 (0:Int) (656:Int))
 else
 qf (0:Int)
 else
 qf (0:Int)
 else
 bif (decide ((97:UInt8)≤c0)) then
 bif (decide (c0≤(122:UInt8))) then
 qf (bits .or .i64 (0:Int) (656:Int))
 else
 qf (0:Int)
 else
 qf (0:Int)
 else
 bif (decide ((65:UInt8)≤c0)) then
 bif (decide (c0≤(90:UInt8))) then
 bif (decide (c0≤(90:UInt8))) then
 qf (bits .or .i64 (0:Int) (656:Int))
 else
 qf (0:Int)
 else
 bif (decide ((97:UInt8)≤c0)) then
 bif (decide (c0≤(122:UInt8))) then
 qf (bits .or .i64 (0:Int) (656:Int))
 else
 qf (0:Int)
 else
 qf (0:Int)
 else
 bif (decide ((97:UInt8)≤c0)) then
 bif (decide (c0≤(122:UInt8))) then
 qf (bits .or .i64 (0:Int) (656:Int))
 else
 qf (0:Int)
 else
 qf (0:Int)
def qvP (s4:Int):Option AV:=some (.dat (.int .i64) s4 none)
def qBK (_n:Nat) (s0:List UInt8) (c1:UInt8):Option AV :=
 qvP (z241 s0 c1)
def qvQ (s4:Int):Option AV:=some (.dat (.int .i64) s4 none)
def qBL (_n:Nat) (s0:List UInt8) (c1:UInt8):Option AV :=
 qvQ (z229 s0 c1)
def qvR (s4:Bool):Option AV:=some (.dat .bool s4 none)
def qBM (_n:Nat) (s0:List UInt8) (c1:UInt8):Option AV :=
 qvR (decide ((0:Int)≤(z192 s0 c1)))
def qU (s2:Int):Option AV:=some (.dat (.int .i64) s2 none)
def qvS (_n:Nat) (c0:UInt8):Option AV :=
 bif (decide (c0 < (33:UInt8))) then
 qU (z214 c0)
 else
 bif (decide ((126:UInt8) < c0)) then
 qU (z214 c0)
 else
 bif (z215 ([33,42,43,45,47]:List UInt8) c0) then
 bif (z215 ([43,47]:List UInt8) c0) then
 bif (z215 ([40,41,60,62,64,44,59,58,92,34,47,91,93,63,61]:List UInt8) c0) then
 qU (bits .or .i64 (bits .or .i64 (bits .or .i64 (bits .or .i64 (z214 c0) (4:Int)) (128:Int)) (512:Int)) (32:Int))
 else
 bif (!(z215 ([42,39,37]:List UInt8) c0)) then
 qU (bits .or .i64 (bits .or .i64 (bits .or .i64 (bits .or .i64 (bits .or .i64 (z214 c0) (4:Int)) (128:Int)) (512:Int)) (64:Int)) (256:Int))
 else
 qU (bits .or .i64 (bits .or .i64 (bits .or .i64 (bits .or .i64 (z214 c0) (4:Int)) (128:Int)) (512:Int)) (64:Int))
 else
 bif (z215 ([40,41,60,62,64,44,59,58,92,34,47,91,93,63,61]:List UInt8) c0) then
 qU (bits .or .i64 (bits .or .i64 (bits .or .i64 (z214 c0) (4:Int)) (128:Int)) (32:Int))
 else
 bif (!(z215 ([42,39,37]:List UInt8) c0)) then
 qU (bits .or .i64 (bits .or .i64 (bits .or .i64 (bits .or .i64 (z214 c0) (4:Int)) (128:Int)) (64:Int)) (256:Int))
 else
 qU (bits .or .i64 (bits .or .i64 (bits .or .i64 (z214 c0) (4:Int)) (128:Int)) (64:Int))
 else
 bif (z215 ([43,47]:List UInt8) c0) then
 bif (z215 ([40,41,60,62,64,44,59,58,92,34,47,91,93,63,61]:List UInt8) c0) then
 qU (bits .or .i64 (bits .or .i64 (bits .or .i64 (z214 c0) (4:Int)) (512:Int)) (32:Int))
 else
 bif (!(z215 ([42,39,37]:List UInt8) c0)) then
 qU (bits .or .i64 (bits .or .i64 (bits .or .i64 (bits .or .i64 (z214 c0) (4:Int)) (512:Int)) (64:Int)) (256:Int))
 else
 qU (bits .or .i64 (bits .or .i64 (bits .or .i64 (z214 c0) (4:Int)) (512:Int)) (64:Int))
 else
 bif (z215 ([40,41,60,62,64,44,59,58,92,34,47,91,93,63,61]:List UInt8) c0) then
 qU (bits .or .i64 (bits .or .i64 (z214 c0) (4:Int)) (32:Int))
 else
 bif (!(z215 ([42,39,37]:List UInt8) c0)) then
 qU (bits .or .i64 (bits .or .i64 (bits .or .i64 (z214 c0) (4:Int)) (64:Int)) (256:Int))
 else
 qU (bits .or .i64 (bits .or .i64 (z214 c0) (4:Int)) (64:Int))
def qvT (s4:Bool):Option AV:=some (.dat .bool s4 none)
def qBN (_n:Nat) (c0:UInt8) (kinds1:Int):Option AV :=
 qvT ((bits .and .i64 (z180 c0) kinds1) != (0:Int))
def qpx (s2:Int):Option AV:=some (.dat (.int .i64) s2 none)
def qDv (_n:Nat) (c0:UInt8):Option AV :=
 bif (c0==(32:UInt8)) then
 qpx (1:Int)
 else
 bif (z129 c0 (128:Int)) then
 qpx (1:Int)
 else
 qpx (3:Int)
def qBO (s2:Int):Option AV:=some (.dat (.int .i64) s2 none)
def qed (k0:Int→Option AV) (next:Int→List UInt8→Int→Int→Option AV) (_n:Nat) (n3:Int) (s6:List UInt8) (s7:Int) (s8:Int):Option AV :=
 bif (decide (s8 < s7)) then
 bif ((decide ((0:Int)≤s8))&&(decide (s8 < (List.length s6:Nat)))) then
 next (IntKind.wrap .i64 (n3+(z84 (List.getD s6 (Int.toNat s8) (0:UInt8))))) s6 s7 (IntKind.wrap .i64 (s8+(1:Int)))
 else none
 else
 k0 n3
def qmM (k0:Int→Option AV):Nat→Int→List UInt8→Int→Int→Option AV
 | 0=>fun _ _ _ _=>none
 | n+1=>qed k0 (qmM k0 n) n
def qgv (_n:Nat) (n3:Int):Option AV :=
 qBO n3
def qzA (n:Nat) (s0:List UInt8):Option AV :=
 qmM (qgv n) n (0:Int) s0 ((List.length s0:Nat):Int) (0:Int)
def qvU (s2:Int):Option AV:=some (.dat (.int .i64) s2 none)
def qDw (_n:Nat) (n0:Int):Option AV :=
 bif (decide (n0 < (1:Int))) then
 qvU (0:Int)
 else
 qvU (IntKind.wrap .i64 ((IntKind.wrap .i64 ((IntKind.wrap .i64 (Int.tdiv (IntKind.wrap .i64 (n0 - (1:Int))) (3:Int)))*(4:Int)))+(4:Int)))
def qhw (s4:Int) (s5:Bool):Option AV:=some (.tup [(.dat (.int .i64) s4 none),(.dat .bool s5 none)])
def qkW (_n:Nat) (s1:List UInt8):Option AV :=
 qhw (z87 ((List.length s1:Nat):Int)) true
def qhx (s4:Int) (s5:Bool):Option AV:=some (.tup [(.dat (.int .i64) s4 none),(.dat .bool s5 none)])
def qgw (_n:Nat) (s1:List UInt8):Option AV :=
 bif ((qhc s1)&&true) then
 qhx (z83 s1) true
 else none
def qhy (s4:Int) (s5:Bool):Option AV:=some (.tup [(.dat (.int .i64) s4 none),(.dat .bool s5 none)])
def qkX (_n:Nat) (_s1:List UInt8):Option AV :=
 qhy (0:Int) false
def qvV (s2:Int):Option AV:=some (.dat (.int .i64) s2 none)
def qBP (_n:Nat) (_x0:Unit):Option AV :=
 qvV (1:Int)
def qvW (s2:Int):Option AV:=some (.dat (.int .i64) s2 none)
def qBQ (_n:Nat) (_x0:Unit):Option AV :=
 qvW (2:Int)
def qBR (_n:Nat) (code0:Int):Option AV :=
 bif (code0==(z194 ())) then
 some (.iface 178 (.dat .unit () none))
 else
 bif (code0==(z195 ())) then
 some (.iface 179 (.dat .unit () none))
 else
 some .nilIface
def qaC (s6:Int) (s7:Int):Option AV:=some (.tup [(.dat (.int .i64) s6 none),(.dat (.int .i64) s7 none)])
def qvX (_n:Nat) (charset0:Int) (code1:Int) (t2:List Int):Option AV :=
 bif ((qhD charset0 t2)&&true) then
 bif (((z120 charset0 t2).2)==(10:Int)) then
 qaC (0:Int) ((z120 charset0 t2).2)
 else
 bif (code1==(1:Int)) then
 bif ((qeE ((z120 charset0 t2).1))&&true) then
 bif (!true) then
 qaC (0:Int) (3:Int)
 else
 bif (((z120 charset0 t2).2) != (0:Int)) then
 qaC (0:Int) ((z120 charset0 t2).2)
 else
 qaC (z87 ((List.length ((z120 charset0 t2).1):Nat):Int)) (0:Int)
 else none
 else
 bif (code1==(2:Int)) then
 bif ((qeE ((z120 charset0 t2).1))&&true) then
 bif (!true) then
 qaC (0:Int) (3:Int)
 else
 bif (((z120 charset0 t2).2) != (0:Int)) then
 qaC (0:Int) ((z120 charset0 t2).2)
 else
 qaC (z83 ((z120 charset0 t2).1)) (0:Int)
 else none
 else
 bif (!false) then
 qaC (0:Int) (3:Int)
 else
 bif (((z120 charset0 t2).2) != (0:Int)) then
 qaC (0:Int) ((z120 charset0 t2).2)
 else
 qaC (0:Int) (0:Int)
 else none
def qvY (s6:Int) (s7:Int):Option AV:=some (.tup [(.dat (.int .i64) s6 none),(.dat (.int .i64) s7 none)])
def qDx (_n:Nat) (charset0:Int) (code1:Int) (t2:List Int):Option AV :=
 bif ((qeF charset0 code1 t2)&&true) then
 bif (((z112 charset0 code1 t2).2) != (0:Int)) then
 qvY (0:Int) ((z112 charset0 code1 t2).2)
 else
 qvY (IntKind.wrap .i64 (((z112 charset0 code1 t2).1)+(z17 charset0))) (0:Int)
 else none
def qjn (s8:Bool):Option AV:=some (.dat .bool s8 none)
def qvZ (_n:Nat) (charset0:Int) (code1:Int) (t2:List Int) (room3:Int):Option AV :=
 bif ((qrD charset0 code1 t2)&&true) then
 bif (((z66 charset0 code1 t2).2)==(0:Int)) then
 bif (decide ((0:Int) < ((List.length t2:Nat):Int))) then
 qjn (decide (((z66 charset0 code1 t2).1)≤(bif (decide ((75:Int) < room3)) then (75:Int) else room3)))
 else
 qjn false
 else
 qjn false
 else none
def qwa (s8:Int):Option AV:=some (.dat (.int .i64) s8 none)
def qcc (k0:Int→Option AV) (next:Int→Int→List Int→Int→Int→Option AV) (_n:Nat) (charset0:Int) (code1:Int) (t2:List Int) (room3:Int) (many9:Int):Option AV :=
 bif (decide (many9 < ((List.length t2:Nat):Int))) then
 bif (((decide ((0:Int)≤((0:Nat):Int)))&&(decide (((0:Nat):Int)≤(IntKind.wrap .i64 (many9+(1:Int))))))&&(decide ((IntKind.wrap .i64 (many9+(1:Int)))≤((List.length t2:Nat):Int)))) then
 bif ((qoS charset0 code1 (List.drop (Int.toNat ((0:Nat):Int)) (List.take (Int.toNat (IntKind.wrap .i64 (many9+(1:Int)))) t2)) room3)&&true) then
 bif (z156 charset0 code1 (List.drop (Int.toNat ((0:Nat):Int)) (List.take (Int.toNat (IntKind.wrap .i64 (many9+(1:Int)))) t2)) room3) then
 next charset0 code1 t2 room3 (IntKind.wrap .i64 (many9+(1:Int)))
 else
 k0 many9
 else none
 else none
 else
 k0 many9
def qgx (k0:Int→Option AV):Nat→Int→Int→List Int→Int→Int→Option AV
 | 0=>fun _ _ _ _ _=>none
 | n+1=>qcc k0 (qgx k0 n) n
def qdr (_n:Nat) (many9:Int):Option AV :=
 qwa many9
def qpy (n:Nat) (charset0:Int) (code1:Int) (t2:List Int) (room3:Int):Option AV :=
 qgx (qdr n) n charset0 code1 t2 room3 (0:Int)
def qee (V:Sigma Inv) (xv:Den V.1) (s29:List Int) (s30:Int) (s31:Int) (s32:Int):Option AV:=some (.tup [(.tup []),(.abs V.1 V.2 xv),(.pbox (.leaf (.sl (.int .i32))) s29 none),(.pbox (.leaf (.int .i64)) s30 none),(.pbox (.leaf (.int .i64)) s31 none),(.pbox (.leaf (.int .i64)) s32 none)])
def qfe (V:Sigma Inv) (ret:Den V.1→List Int→Int→Int→Int→Option AV) (k0:Den V.1→List Int→Int→Int→Int→Option AV) (next:Den V.1→List Int→Int→Int→Int→Option AV) (_n:Nat) (xv:Den V.1) (s29:List Int) (s30:Int) (s31:Int) (s32:Int):Option AV :=
 bif (decide ((0:Int) < ((List.length s29:Nat):Int))) then
 bif ((qoT s30 s31 s29 s32)&&true) then
 bif (((decide ((0:Int)≤((0:Nat):Int)))&&(decide (((0:Nat):Int)≤(z114 s30 s31 s29 s32))))&&(decide ((z114 s30 s31 s29 s32)≤((List.length s29:Nat):Int)))) then
 bif (V.2.spec xv [⟨(.sl (.int .i32)),(List.drop (Int.toNat ((0:Nat):Int)) (List.take (Int.toNat (z114 s30 s31 s29 s32)) s29))⟩]).1 then
 bif (!(V.2.spec xv [⟨(.sl (.int .i32)),(List.drop (Int.toNat ((0:Nat):Int)) (List.take (Int.toNat (z114 s30 s31 s29 s32)) s29))⟩]).2.1) then
 ret (V.2.spec xv [⟨(.sl (.int .i32)),(List.drop (Int.toNat ((0:Nat):Int)) (List.take (Int.toNat (z114 s30 s31 s29 s32)) s29))⟩]).2.2 s29 s30 s31 s32
 else
 bif ((z114 s30 s31 s29 s32)==(0:Int)) then
 ret (V.2.spec xv [⟨(.sl (.int .i32)),(List.drop (Int.toNat ((0:Nat):Int)) (List.take (Int.toNat (z114 s30 s31 s29 s32)) s29))⟩]).2.2 s29 s30 s31 s32
 else
 bif (((decide ((0:Int)≤(z114 s30 s31 s29 s32)))&&(decide ((z114 s30 s31 s29 s32)≤((List.length s29:Nat):Int))))&&(decide (((List.length s29:Nat):Int)≤((List.length s29:Nat):Int)))) then
 next (V.2.spec xv [⟨(.sl (.int .i32)),(List.drop (Int.toNat ((0:Nat):Int)) (List.take (Int.toNat (z114 s30 s31 s29 s32)) s29))⟩]).2.2 (List.drop (Int.toNat (z114 s30 s31 s29 s32)) (List.take (Int.toNat ((List.length s29:Nat):Int)) s29)) s30 s31 (75:Int)
 else none
 else none
 else none
 else none
 else
 k0 xv s29 s30 s31 s32
def qgy (V:Sigma Inv) (ret:Den V.1→List Int→Int→Int→Int→Option AV) (k0:Den V.1→List Int→Int→Int→Int→Option AV):Nat→Den V.1→List Int→Int→Int→Int→Option AV
 | 0=>fun _ _ _ _ _=>none
 | n+1=>(qfe V) ret k0 ((qgy V) ret k0 n) n
def qds (V:Sigma Inv) (_n:Nat) (xv:Den V.1) (s29:List Int) (s30:Int) (s31:Int) (s32:Int):Option AV :=
 (qee V) xv s29 s30 s31 s32
def qwb (V:Sigma Inv) (n:Nat) (x0:Den V.1) (x1:List Int) (x2:Int) (x3:Int) (x4:Int):Option AV :=
 (qgy V) (qee V) ((qds V) n) n x0 x1 x2 x3 x4
def qpz (s8:List (List Int)) (s9:Int):Option AV:=some (.tup [(.dat (.sl (.sl (.int .i32))) s8 none),(.dat (.int .i64) s9 none)])
def qcB (n:Nat) (x:Bool×(List (List Int))×Int×(List (List Int))×Unit) (y0:List Int):Bool×Bool×(Bool×(List (List Int))×Int×(List (List Int))×Unit) :=
 bif x.1 then (false,false,x) else yfin (.pair (.sl (.sl (.int .i32))) (.pair (.int .i64) (.pair (.sl (.sl (.int .i32))) .unit))) x (
 bif (((List.length y0:Nat):Int)==(0:Int)) then
 some (.dat (.pair .bool (.pair (.sl (.sl (.int .i32))) (.pair (.int .i64) (.pair (.sl (.sl (.int .i32))) .unit)))) (true,(([]:List (List Int)),((12:Int),(x.2.2.2.1,())))) none)
 else
 bif ((qCX y0)&&true) then
 bif (decide (List.length x.2.2.2.1+List.length ([(z68 y0)]:List (List Int))≤room)) then
 some (.dat (.pair .bool (.pair (.sl (.sl (.int .i32))) (.pair (.int .i64) (.pair (.sl (.sl (.int .i32))) .unit)))) (false,(x.2.1,(x.2.2.1,((x.2.2.2.1++([(z68 y0)]:List (List Int))),())))) none)
 else none
 else none)
def qDy (n:Nat) (charset0:Int) (code1:Int) (t2:List Int) (first3:Int):Option AV :=
 bif ((qrD charset0 code1 t2)&&true) then
 bif (((z66 charset0 code1 t2).2) != (0:Int)) then
 qpz ([]:List (List Int)) ((z66 charset0 code1 t2).2)
 else
 bif (z113 (qcB n) (false,(([]:List (List Int)),((0:Int),(([]:List (List Int)),())))) t2 charset0 code1 first3).1 then
 bif (z113 (qcB n) (false,(([]:List (List Int)),((0:Int),(([]:List (List Int)),())))) t2 charset0 code1 first3).2.1.1 then
 qpz (z113 (qcB n) (false,(([]:List (List Int)),((0:Int),(([]:List (List Int)),())))) t2 charset0 code1 first3).2.1.2.1 (z113 (qcB n) (false,(([]:List (List Int)),((0:Int),(([]:List (List Int)),())))) t2 charset0 code1 first3).2.1.2.2.1
 else
 qpz (z113 (qcB n) (false,(([]:List (List Int)),((0:Int),(([]:List (List Int)),())))) t2 charset0 code1 first3).2.1.2.2.2.1 (0:Int)
 else none
 else none
def qmN (s2:Int):Option AV:=some (.dat (.int .i64) s2 none)
def qcd (k0:Int→Option AV) (next:Int→Int→Int→Option AV) (_n:Nat) (c0:Int) (s3:Int) (s5:Int):Option AV :=
 bif (decide (s5 < (5:Int))) then
 bif (z157 (IntKind.wrap .i64 (s5+(1:Int))) c0) then
 bif (decide ((0:Int)≤(IntKind.wrap .i64 (s5+(1:Int))))) then
 next c0 (bits .or .i64 s3 (IntKind.wrap .i64 ((1:Int)*2 ^ (min (Int.toNat (IntKind.wrap .i64 (s5+(1:Int)))) (IntKind.bits .i64))))) (IntKind.wrap .i64 (s5+(1:Int)))
 else none
 else
 next c0 s3 (IntKind.wrap .i64 (s5+(1:Int)))
 else
 k0 s3
def qdt (k0:Int→Option AV):Nat→Int→Int→Int→Option AV
 | 0=>fun _ _ _=>none
 | n+1=>qcd k0 (qdt k0 n) n
def qbd (_n:Nat) (s3:Int):Option AV :=
 qmN s3
def qpA (n:Nat) (c0:Int):Option AV :=
 qdt (qbd n) n c0 (0:Int) (0:Int)
def qwc (s2:Int):Option AV:=some (.dat (.int .i64) s2 none)
def qwd (_n:Nat) (x0:Int):Option AV :=
 bif ((qvb x0)&&true) then
 qwc (z201 x0)
 else none
def qmO (s2:Int):Option AV:=some (.dat (.int .i64) s2 none)
def qwe (_n:Nat) (sets0:Int):Option AV :=
 bif (sets0==(0:Int)) then
 qmO (0:Int)
 else
 bif ((qoV (IntKind.wrap .u64 sets0))&&true) then
 qmO (z158 (IntKind.wrap .u64 sets0))
 else none
def qwf (s2:Int) (s3:Int):Option AV:=some (.tup [(.dat (.int .i64) s2 none),(.dat (.int .i64) s3 none)])
def qef (k0:Int→Option AV) (next:Int→List Int→Int→Int→Option AV) (_n:Nat) (all4:Int) (s7:List Int) (s8:Int) (s9:Int):Option AV :=
 bif (decide (s9 < s8)) then
 bif ((decide ((0:Int)≤s9))&&(decide (s9 < (List.length s7:Nat)))) then
 next (bits .and .i64 all4 (z116 (List.getD s7 (Int.toNat s9) (0:Int)))) s7 s8 (IntKind.wrap .i64 (s9+(1:Int)))
 else none
 else
 k0 all4
def qmP (k0:Int→Option AV):Nat→Int→List Int→Int→Int→Option AV
 | 0=>fun _ _ _ _=>none
 | n+1=>qef k0 (qmP k0 n) n
def qcC (_n:Nat) (all4:Int):Option AV :=
 bif (all4==(0:Int)) then
 qwf (0:Int) (7:Int)
 else
 bif ((qoW all4)&&true) then
 qwf (z117 all4) (0:Int)
 else none
def qzB (n:Nat) (t0:List Int):Option AV :=
 qmP (qcC n) n (62:Int) t0 ((List.length t0:Nat):Int) (0:Int)
def qwg (s6:Int):Option AV:=some (.dat (.int .i64) s6 none)
def qwh (_n:Nat) (charset0:Int) (code1:Int) (t2:List Int):Option AV :=
 bif ((qeF charset0 code1 t2)&&true) then
 qwg ((z112 charset0 code1 t2).1)
 else none
def qwi (s4:Int):Option AV:=some (.dat (.int .i64) s4 none)
def qwj (_n:Nat) (charset0:Int) (t1:List Int):Option AV :=
 bif ((qhl charset0 (1:Int) t1)&&true) then
 bif ((qhl charset0 (2:Int) t1)&&true) then
 qwi (IntKind.wrap .i64 ((z159 charset0 (1:Int) t1) - (z159 charset0 (2:Int) t1)))
 else none
 else none
def qpB (s4:Int) (s5:Int):Option AV:=some (.tup [(.dat (.int .i64) s4 none),(.dat (.int .i64) s5 none)])
def qDz (_n:Nat) (charset0:Int) (t1:List Int):Option AV :=
 bif ((qeF charset0 (1:Int) t1)&&true) then
 bif (((z112 charset0 (1:Int) t1).2) != (0:Int)) then
 qpB (0:Int) ((z112 charset0 (1:Int) t1).2)
 else
 bif ((qoR charset0 t1)&&true) then
 bif (decide ((0:Int)≤(z118 charset0 t1))) then
 qpB (2:Int) (0:Int)
 else
 qpB (1:Int) (0:Int)
 else none
 else none
def qwk (s2:Int) (s3:Int) (s4:Int):Option AV:=some (.tup [(.dat (.int .i64) s2 none),(.dat (.int .i64) s3 none),(.dat (.int .i64) s4 none)])
def qDA (_n:Nat) (t0:List Int):Option AV :=
 bif ((qzg t0)&&true) then
 bif (((z71 t0).2) != (0:Int)) then
 qwk (0:Int) (0:Int) ((z71 t0).2)
 else
 bif ((qzd ((z71 t0).1) t0)&&true) then
 qwk ((z71 t0).1) ((z72 ((z71 t0).1) t0).1) ((z72 ((z71 t0).1) t0).2)
 else none
 else none
def qwl (s2:UInt8):Option AV:=some (.dat .byte s2 none)
def qwm (_n:Nat) (n0:Int):Option AV :=
 bif ((decide ((0:Int)≤(bits .and .i64 n0 (15:Int))))&&(decide ((bits .and .i64 n0 (15:Int)) < (List.length ([48,49,50,51,52,53,54,55,56,57,65,66,67,68,69,70]:List UInt8):Nat)))) then
 qwl (List.getD ([48,49,50,51,52,53,54,55,56,57,65,66,67,68,69,70]:List UInt8) (Int.toNat (bits .and .i64 n0 (15:Int))) (0:UInt8))
 else none
def qwn (s2:List UInt8):Option AV:=some (.dat (.sl .byte) s2 (some (2,5)))
def qwo (_n:Nat) (c0:UInt8):Option AV :=
 bif ((qcp (IntKind.wrap .i64 ((UInt8.toNat (UInt8.ofNat (UInt8.toNat c0 / 2 ^ (min (Int.toNat (4:Int)) 8))):Nat):Int)))&&true) then
 bif ((qcp (IntKind.wrap .i64 ((UInt8.toNat c0:Nat):Int)))&&true) then
 qwn ([(z181 (IntKind.wrap .i64 ((UInt8.toNat (UInt8.ofNat (UInt8.toNat c0 / 2 ^ (min (Int.toNat (4:Int)) 8))):Nat):Int))),(z181 (IntKind.wrap .i64 ((UInt8.toNat c0:Nat):Int)))]:List UInt8)
 else none
 else none
def qBS (s6:List UInt8):Option AV:=some (.dat (.sl .byte) s6 (some (6,5)))
def qDB (_n:Nat) (b0:List UInt8) (sign1:UInt8) (c2:UInt8):Option AV :=
 bif ((qxl b0)&&true) then
 bif (decide (List.length (z38 b0)+List.length ([sign1]:List UInt8)≤room)) then
 bif (decide (List.length ((z38 b0)++([sign1]:List UInt8))+List.length (z130 c2)≤room)) then
 qBS (((z38 b0)++([sign1]:List UInt8))++(z130 c2))
 else none
 else none
 else none
def qkY (s2:List UInt8):Option AV:=some (.dat (.sl .byte) s2 (some (2,5)))
def qeg (k0:List UInt8→Option AV) (next:List UInt8→List UInt8→Int→Int→Option AV) (_n:Nat) (out3:List UInt8) (s9:List UInt8) (s10:Int) (s11:Int):Option AV :=
 bif (decide (s11 < s10)) then
 bif ((decide ((0:Int)≤s11))&&(decide (s11 < (List.length s9:Nat)))) then
 bif ((List.getD s9 (Int.toNat s11) (0:UInt8))==(32:UInt8)) then
 bif (decide (List.length out3+List.length ([(95:UInt8)]:List UInt8)≤room)) then
 next (out3++([(95:UInt8)]:List UInt8)) s9 s10 (IntKind.wrap .i64 (s11+(1:Int)))
 else none
 else
 bif ((z84 (List.getD s9 (Int.toNat s11) (0:UInt8)))==(1:Int)) then
 bif (decide (List.length out3+List.length ([(List.getD s9 (Int.toNat s11) (0:UInt8))]:List UInt8)≤room)) then
 next (out3++([(List.getD s9 (Int.toNat s11) (0:UInt8))]:List UInt8)) s9 s10 (IntKind.wrap .i64 (s11+(1:Int)))
 else none
 else
 bif ((qBn out3 (61:UInt8) (List.getD s9 (Int.toNat s11) (0:UInt8)))&&true) then
 next (z85 out3 (61:UInt8) (List.getD s9 (Int.toNat s11) (0:UInt8))) s9 s10 (IntKind.wrap .i64 (s11+(1:Int)))
 else none
 else none
 else
 k0 out3
def qmQ (k0:List UInt8→Option AV):Nat→List UInt8→List UInt8→Int→Int→Option AV
 | 0=>fun _ _ _ _=>none
 | n+1=>qeg k0 (qmQ k0 n) n
def qgz (_n:Nat) (out3:List UInt8):Option AV :=
 qkY out3
def qzC (n:Nat) (s0:List UInt8):Option AV :=
 bif ((qhc s0)&&true) then
 bif (((decide ((0:Int)≤(0:Int)))&&(decide ((0:Int)≤(z83 s0))))&&(decide ((z83 s0)≤(room:Int)))) then
 qmQ (qgz n) n (List.replicate (Int.toNat (0:Int)) (0:UInt8)) s0 ((List.length s0:Nat):Int) (0:Int)
 else none
 else none
def qwp (s2:UInt8):Option AV:=some (.dat .byte s2 none)
def qwq (_n:Nat) (n0:Int):Option AV :=
 bif ((decide ((0:Int)≤(bits .and .i64 n0 (63:Int))))&&(decide ((bits .and .i64 n0 (63:Int)) < (List.length ([65,66,67,68,69,70,71,72,73,74,75,76,77,78,79,80,81,82,83,84,85,86,87,88,89,90,97,98,99,100,101,102,103,104,105,106,107,108,109,110,111,112,113,114,115,116,117,118,119,120,121,122,48,49,50,51,52,53,54,55,56,57,43,47]:List UInt8):Nat)))) then
 qwp (List.getD ([65,66,67,68,69,70,71,72,73,74,75,76,77,78,79,80,81,82,83,84,85,86,87,88,89,90,97,98,99,100,101,102,103,104,105,106,107,108,109,110,111,112,113,114,115,116,117,118,119,120,121,122,48,49,50,51,52,53,54,55,56,57,43,47]:List UInt8) (Int.toNat (bits .and .i64 n0 (63:Int))) (0:UInt8))
 else none
def qkZ (s2:List UInt8):Option AV:=some (.dat (.sl .byte) s2 (some (2,5)))
def qwr (k2:List UInt8→Int→Int→List UInt8→Int→Int→Option AV) (next:List UInt8→Int→Int→List UInt8→Int→Int→Option AV) (_n:Nat) (out3:List UInt8) (held4:Int) (many5:Int) (s8:List UInt8) (s9:Int) (s10:Int):Option AV :=
 bif (decide ((6:Int)≤many5)) then
 bif (decide ((0:Int)≤(IntKind.wrap .i64 (many5 - (6:Int))))) then
 bif (decide (List.length out3+List.length ([(z132 (Int.fdiv held4 (2 ^ (min (Int.toNat (IntKind.wrap .i64 (many5 - (6:Int)))) (IntKind.bits .i64)))))]:List UInt8)≤room)) then
 next (out3++([(z132 (Int.fdiv held4 (2 ^ (min (Int.toNat (IntKind.wrap .i64 (many5 - (6:Int)))) (IntKind.bits .i64)))))]:List UInt8)) held4 (IntKind.wrap .i64 (many5 - (6:Int))) s8 s9 s10
 else none
 else none
 else
 k2 out3 held4 many5 s8 s9 s10
def qeh (k2:List UInt8→Int→Int→List UInt8→Int→Int→Option AV):Nat→List UInt8→Int→Int→List UInt8→Int→Int→Option AV
 | 0=>fun _ _ _ _ _ _=>none
 | n+1=>qwr k2 (qeh k2 n) n
def qbB (_k0:List UInt8→Int→Int→Option AV) (next:List UInt8→Int→Int→List UInt8→Int→Int→Option AV) (_n:Nat) (out3:List UInt8) (held4:Int) (many5:Int) (s8:List UInt8) (s9:Int) (s10:Int):Option AV :=
 bif (decide ((0:Int)≤many5)) then
 next out3 (bits .and .i64 held4 (IntKind.wrap .i64 ((IntKind.wrap .i64 ((1:Int)*2 ^ (min (Int.toNat many5) (IntKind.bits .i64)))) - (1:Int)))) many5 s8 s9 (IntKind.wrap .i64 (s10+(1:Int)))
 else none
def qcD (k0:List UInt8→Int→Int→Option AV) (next:List UInt8→Int→Int→List UInt8→Int→Int→Option AV) (n:Nat) (out3:List UInt8) (held4:Int) (many5:Int) (s8:List UInt8) (s9:Int) (s10:Int):Option AV :=
 bif (decide (s10 < s9)) then
 bif ((decide ((0:Int)≤s10))&&(decide (s10 < (List.length s8:Nat)))) then
 qeh (qbB k0 next n) n out3 (bits .or .i64 (IntKind.wrap .i64 (held4*2 ^ (min (Int.toNat (8:Int)) (IntKind.bits .i64)))) (IntKind.wrap .i64 ((UInt8.toNat (List.getD s8 (Int.toNat s10) (0:UInt8)):Nat):Int))) (IntKind.wrap .i64 (many5+(8:Int))) s8 s9 s10
 else none
 else
 k0 out3 held4 many5
def qmR (k0:List UInt8→Int→Int→Option AV):Nat→List UInt8→Int→Int→List UInt8→Int→Int→Option AV
 | 0=>fun _ _ _ _ _ _=>none
 | n+1=>qcD k0 (qmR k0 n) n
def qcE (_n:Nat) (out3:List UInt8) (held4:Int) (many5:Int):Option AV :=
 bif (decide ((0:Int) < many5)) then
 bif (decide ((0:Int)≤(IntKind.wrap .i64 ((6:Int) - many5)))) then
 bif (decide (List.length out3+List.length ([(z132 (IntKind.wrap .i64 (held4*2 ^ (min (Int.toNat (IntKind.wrap .i64 ((6:Int) - many5))) (IntKind.bits .i64)))))]:List UInt8)≤room)) then
 qkZ (out3++([(z132 (IntKind.wrap .i64 (held4*2 ^ (min (Int.toNat (IntKind.wrap .i64 ((6:Int) - many5))) (IntKind.bits .i64)))))]:List UInt8))
 else none
 else none
 else
 qkZ out3
def qzD (n:Nat) (s0:List UInt8):Option AV :=
 qmR (qcE n) n ([]:List UInt8) (0:Int) (0:Int) s0 ((List.length s0:Nat):Int) (0:Int)
def qeG (s6:List UInt8) (s7:Int):Option AV:=some (.tup [(.dat (.sl .byte) s6 none),(.dat (.int .i64) s7 none)])
def qDC (_n:Nat) (charset0:Int) (code1:Int) (s2:List UInt8):Option AV :=
 bif (!(z44 charset0)) then
 qeG ([]:List UInt8) (10:Int)
 else
 bif ((z45 code1)==([]:List UInt8)) then
 qeG ([]:List UInt8) (3:Int)
 else
 bif (((List.length s2:Nat):Int)==(0:Int)) then
 qeG ([]:List UInt8) (3:Int)
 else
 bif ((qBo s2)&&true) then
 bif (code1==(1:Int)) then
 bif ((qEL s2)&&true) then
 bif (decide (List.length (z48 charset0 code1)≤room)) then
 bif (decide (List.length (z48 charset0 code1)+List.length (z47 s2)≤room)) then
 bif (decide (List.length ((z48 charset0 code1)++(z47 s2))+List.length ([63,61]:List UInt8)≤room)) then
 bif (decide ((75:Int) < ((List.length (((z48 charset0 code1)++(z47 s2))++([63,61]:List UInt8)):Nat):Int))) then
 qeG ([]:List UInt8) (12:Int)
 else
 qeG (((z48 charset0 code1)++(z47 s2))++([63,61]:List UInt8)) (0:Int)
 else none
 else none
 else none
 else none
 else
 bif (decide (List.length (z48 charset0 code1)≤room)) then
 bif (decide (List.length (z48 charset0 code1)+List.length (z46 s2)≤room)) then
 bif (decide (List.length ((z48 charset0 code1)++(z46 s2))+List.length ([63,61]:List UInt8)≤room)) then
 bif (decide ((75:Int) < ((List.length (((z48 charset0 code1)++(z46 s2))++([63,61]:List UInt8)):Nat):Int))) then
 qeG ([]:List UInt8) (12:Int)
 else
 qeG (((z48 charset0 code1)++(z46 s2))++([63,61]:List UInt8)) (0:Int)
 else none
 else none
 else none
 else none
def qws (s6:List UInt8) (s7:Int):Option AV:=some (.tup [(.dat (.sl .byte) s6 none),(.dat (.int .i64) s7 none)])
def qDD (_n:Nat) (charset0:Int) (code1:Int) (p2:List Int):Option AV :=
 bif ((qhD charset0 p2)&&true) then
 bif (((z120 charset0 p2).2) != (0:Int)) then
 qws ([]:List UInt8) ((z120 charset0 p2).2)
 else
 bif ((qBp charset0 code1 ((z120 charset0 p2).1))&&true) then
 qws ((z15 charset0 code1 ((z120 charset0 p2).1)).1) ((z15 charset0 code1 ((z120 charset0 p2).1)).2)
 else none
 else none
def qbC (s4:List (List UInt8)) (s5:Int):Option AV:=some (.tup [(.dat (.sl (.sl .byte)) s4 none),(.dat (.int .i64) s5 none)])
def qei (ret:List (List UInt8)→Int→Option AV) (k0:List (List UInt8)→Option AV) (next:Int→Int→List (List UInt8)→List (List Int)→Int→Int→Option AV) (_n:Nat) (charset6:Int) (code7:Int) (out10:List (List UInt8)) (s35:List (List Int)) (s36:Int) (s37:Int):Option AV :=
 bif (decide (s37 < s36)) then
 bif ((decide ((0:Int)≤s37))&&(decide (s37 < (List.length s35:Nat)))) then
 bif ((qzn charset6 code7 (List.getD s35 (Int.toNat s37) ([]:List Int)))&&true) then
 bif (((z75 charset6 code7 (List.getD s35 (Int.toNat s37) ([]:List Int))).2) != (0:Int)) then
 ret ([]:List (List UInt8)) ((z75 charset6 code7 (List.getD s35 (Int.toNat s37) ([]:List Int))).2)
 else
 bif (decide (List.length out10+List.length ([((z75 charset6 code7 (List.getD s35 (Int.toNat s37) ([]:List Int))).1)]:List (List UInt8))≤room)) then
 next charset6 code7 (out10++([((z75 charset6 code7 (List.getD s35 (Int.toNat s37) ([]:List Int))).1)]:List (List UInt8))) s35 s36 (IntKind.wrap .i64 (s37+(1:Int)))
 else none
 else none
 else none
 else
 k0 out10
def qmS (ret:List (List UInt8)→Int→Option AV) (k0:List (List UInt8)→Option AV):Nat→Int→Int→List (List UInt8)→List (List Int)→Int→Int→Option AV
 | 0=>fun _ _ _ _ _ _=>none
 | n+1=>qei ret k0 (qmS ret k0 n) n
def qgA (_n:Nat) (out10:List (List UInt8)):Option AV :=
 qbC out10 (0:Int)
def qzE (n:Nat) (t0:List Int) (first1:Int):Option AV :=
 bif ((qzl t0)&&true) then
 bif (((z30 t0).2.2) != (0:Int)) then
 qbC ([]:List (List UInt8)) ((z30 t0).2.2)
 else
 bif ((qzj ((z30 t0).1) ((z30 t0).2.1) t0 first1)&&true) then
 bif (((z28 ((z30 t0).1) ((z30 t0).2.1) t0 first1).2) != (0:Int)) then
 qbC ([]:List (List UInt8)) ((z28 ((z30 t0).1) ((z30 t0).2.1) t0 first1).2)
 else
 qmS qbC (qgA n) n ((z30 t0).1) ((z30 t0).2.1) ([]:List (List UInt8)) ((z28 ((z30 t0).1) ((z30 t0).2.1) t0 first1).1) ((List.length ((z28 ((z30 t0).1) ((z30 t0).2.1) t0 first1).1):Nat):Int) (0:Int)
 else none
 else none
def qwt (s4:List UInt8) (s5:Int):Option AV:=some (.tup [(.dat (.sl .byte) s4 none),(.dat (.int .i64) s5 none)])
def qDE (_n:Nat) (t0:List Int) (first1:Int):Option AV :=
 bif ((qjj t0 first1)&&true) then
 bif (((z32 t0 first1).2) != (0:Int)) then
 qwt ([]:List UInt8) ((z32 t0 first1).2)
 else
 bif ((qrG ((z32 t0 first1).1) ([(13:UInt8),(10:UInt8),(32:UInt8)]:List UInt8))&&true) then
 qwt (z77 ((z32 t0 first1).1) ([(13:UInt8),(10:UInt8),(32:UInt8)]:List UInt8)) (0:Int)
 else none
 else none
def qBT (s4:Int):Option AV:=some (.dat (.int .i64) s4 none)
def qDF (_n:Nat) (t0:List Int) (first1:Int):Option AV :=
 bif ((qjj t0 first1)&&true) then
 qBT ((List.length ((z32 t0 first1).1):Nat):Int)
 else none
def qla (s0:Bool):Option AV:=some (.dat .bool s0 none)
def qDG (_n:Nat):Option AV :=
 bif ((qvc ([(233:Int)]:List Int) (75:Int))&&true) then
 bif ((qjj ([(233:Int)]:List Int) (10:Int))&&true) then
 bif (((z34 ([(233:Int)]:List Int) (75:Int)).1)==([61,63,105,115,111,45,56,56,53,57,45,49,63,81,63,61,69,57,63,61]:List UInt8)) then
 bif (((z34 ([(233:Int)]:List Int) (75:Int)).2)==(0:Int)) then
 bif (((z32 ([(233:Int)]:List Int) (10:Int)).2)==(12:Int)) then
 bif ((qvd ([(233:Int)]:List Int) (75:Int))&&true) then
 qla ((z36 ([(233:Int)]:List Int) (75:Int))==(1:Int))
 else none
 else
 qla false
 else
 qla false
 else
 qla false
 else none
 else none
def qwu (s2:List Int):Option AV:=some (.dat (.sl (.int .i64)) s2 (some (2,3)))
def qce (k2:List UInt8→List Int→Int→Option AV) (next:List UInt8→List Int→Int→Int→Option AV) (_n:Nat) (s0:List UInt8) (out3:List Int) (i4:Int) (k5:Int):Option AV :=
 bif (decide ((0:Int)≤k5)) then
 bif ((decide ((0:Int)≤i4))&&(decide (i4 < (List.length s0:Nat)))) then
 bif (decide ((0:Int)≤k5)) then
 bif (decide (List.length out3+List.length ([(Int.tmod (IntKind.wrap .i64 ((UInt8.toNat (UInt8.ofNat (UInt8.toNat (List.getD s0 (Int.toNat i4) (0:UInt8)) / 2 ^ (min (Int.toNat k5) 8))):Nat):Int)) (2:Int))]:List Int)≤room)) then
 next s0 (out3++([(Int.tmod (IntKind.wrap .i64 ((UInt8.toNat (UInt8.ofNat (UInt8.toNat (List.getD s0 (Int.toNat i4) (0:UInt8)) / 2 ^ (min (Int.toNat k5) 8))):Nat):Int)) (2:Int))]:List Int)) i4 (IntKind.wrap .i64 (k5 - (1:Int)))
 else none
 else none
 else none
 else
 k2 s0 out3 i4
def qdu (k2:List UInt8→List Int→Int→Option AV):Nat→List UInt8→List Int→Int→Int→Option AV
 | 0=>fun _ _ _ _=>none
 | n+1=>qce k2 (qdu k2 n) n
def qdv (_k0:List Int→Option AV) (next:List UInt8→List Int→Int→Option AV) (_n:Nat) (s0:List UInt8) (out3:List Int) (i4:Int):Option AV :=
 next s0 out3 (IntKind.wrap .i64 (i4+(1:Int)))
def qbe (k0:List Int→Option AV) (next:List UInt8→List Int→Int→Option AV) (n:Nat) (s0:List UInt8) (out3:List Int) (i4:Int):Option AV :=
 bif (decide (i4 < ((List.length s0:Nat):Int))) then
 qdu (qdv k0 next n) n s0 out3 i4 (7:Int)
 else
 k0 out3
def qgB (k0:List Int→Option AV):Nat→List UInt8→List Int→Int→Option AV
 | 0=>fun _ _ _=>none
 | n+1=>qbe k0 (qgB k0 n) n
def qdw (_n:Nat) (out3:List Int):Option AV :=
 qwu out3
def qpC (n:Nat) (s0:List UInt8):Option AV :=
 qgB (qdw n) n s0 ([]:List Int) (0:Int)
def qcF (s2:UInt8):Option AV:=some (.dat .byte s2 none)
def qwv (_n:Nat) (n0:Int):Option AV :=
 bif (decide ((Int.tmod (IntKind.wrap .i64 ((Int.tmod n0 (64:Int))+(64:Int))) (64:Int)) < (26:Int))) then
 qcF (UInt8.ofNat (Int.toNat (IntKind.wrap .u8 (IntKind.wrap .i64 ((65:Int)+(Int.tmod (IntKind.wrap .i64 ((Int.tmod n0 (64:Int))+(64:Int))) (64:Int)))))))
 else
 bif (decide ((Int.tmod (IntKind.wrap .i64 ((Int.tmod n0 (64:Int))+(64:Int))) (64:Int)) < (52:Int))) then
 qcF (UInt8.ofNat (Int.toNat (IntKind.wrap .u8 (IntKind.wrap .i64 ((IntKind.wrap .i64 ((97:Int)+(Int.tmod (IntKind.wrap .i64 ((Int.tmod n0 (64:Int))+(64:Int))) (64:Int)))) - (26:Int))))))
 else
 bif (decide ((Int.tmod (IntKind.wrap .i64 ((Int.tmod n0 (64:Int))+(64:Int))) (64:Int)) < (62:Int))) then
 qcF (UInt8.ofNat (Int.toNat (IntKind.wrap .u8 (IntKind.wrap .i64 ((IntKind.wrap .i64 ((48:Int)+(Int.tmod (IntKind.wrap .i64 ((Int.tmod n0 (64:Int))+(64:Int))) (64:Int)))) - (52:Int))))))
 else
 bif ((Int.tmod (IntKind.wrap .i64 ((Int.tmod n0 (64:Int))+(64:Int))) (64:Int))==(62:Int)) then
 qcF (43:UInt8)
 else
 qcF (47:UInt8)
def qww (s2:Int):Option AV:=some (.dat (.int .i64) s2 none)
def qcf (k0:Int→Option AV) (next:List Int→Int→Int→Option AV) (_n:Nat) (l0:List Int) (n3:Int) (i4:Int):Option AV :=
 bif (decide (i4 < ((List.length l0:Nat):Int))) then
 bif ((decide ((0:Int)≤i4))&&(decide (i4 < (List.length l0:Nat)))) then
 next l0 (IntKind.wrap .i64 ((IntKind.wrap .i64 ((2:Int)*n3))+(List.getD l0 (Int.toNat i4) (0:Int)))) (IntKind.wrap .i64 (i4+(1:Int)))
 else none
 else
 k0 n3
def qgC (k0:Int→Option AV):Nat→List Int→Int→Int→Option AV
 | 0=>fun _ _ _=>none
 | n+1=>qcf k0 (qgC k0 n) n
def qdx (_n:Nat) (n3:Int):Option AV :=
 qww n3
def qpD (n:Nat) (l0:List Int):Option AV :=
 qgC (qdx n) n l0 (0:Int) (0:Int)
def qBU (s2:List UInt8):Option AV:=some (.dat (.sl .byte) s2 (some (2,5)))
def qjo (k0:List Int→Option AV) (next:List Int→Option AV) (_n:Nat) (l3:List Int):Option AV :=
 bif ((Int.tmod ((List.length l3:Nat):Int) (6:Int)) != (0:Int)) then
 bif (decide (List.length l3+List.length ([(0:Int)]:List Int)≤room)) then
 next (l3++([(0:Int)]:List Int))
 else none
 else
 k0 l3
def qmT (k0:List Int→Option AV):Nat→List Int→Option AV
 | 0=>fun _=>none
 | n+1=>qjo k0 (qmT k0 n) n
def qej (k2:List UInt8→Option AV) (next:List Int→List UInt8→Int→Option AV) (_n:Nat) (l3:List Int) (out4:List UInt8) (i5:Int):Option AV :=
 bif (decide (i5 < ((List.length l3:Nat):Int))) then
 bif (((decide ((0:Int)≤i5))&&(decide (i5≤(IntKind.wrap .i64 (i5+(6:Int))))))&&(decide ((IntKind.wrap .i64 (i5+(6:Int)))≤((List.length l3:Nat):Int)))) then
 bif ((qhE (List.drop (Int.toNat i5) (List.take (Int.toNat (IntKind.wrap .i64 (i5+(6:Int)))) l3)))&&true) then
 bif (decide (List.length out4+List.length ([(z135 (z136 (List.drop (Int.toNat i5) (List.take (Int.toNat (IntKind.wrap .i64 (i5+(6:Int)))) l3))))]:List UInt8)≤room)) then
 next l3 (out4++([(z135 (z136 (List.drop (Int.toNat i5) (List.take (Int.toNat (IntKind.wrap .i64 (i5+(6:Int)))) l3))))]:List UInt8)) (IntKind.wrap .i64 (i5+(6:Int)))
 else none
 else none
 else none
 else
 k2 out4
def qmU (k2:List UInt8→Option AV):Nat→List Int→List UInt8→Int→Option AV
 | 0=>fun _ _ _=>none
 | n+1=>qej k2 (qmU k2 n) n
def qgD (_n:Nat) (out4:List UInt8):Option AV :=
 qBU out4
def qbf (n:Nat) (l3:List Int):Option AV :=
 qmU (qgD n) n l3 ([]:List UInt8) (0:Int)
def qzF (n:Nat) (s0:List UInt8):Option AV :=
 bif ((qll s0)&&true) then
 qmT (qbf n) n (z134 s0)
 else none
def qBV (s2:List UInt8):Option AV:=some (.dat (.sl .byte) s2 (some (2,5)))
def qjp (k0:List UInt8→Option AV) (next:List UInt8→Option AV) (_n:Nat) (out3:List UInt8):Option AV :=
 bif ((Int.tmod ((List.length out3:Nat):Int) (4:Int)) != (0:Int)) then
 bif (decide (List.length out3+List.length ([(61:UInt8)]:List UInt8)≤room)) then
 next (out3++([(61:UInt8)]:List UInt8))
 else none
 else
 k0 out3
def qmV (k0:List UInt8→Option AV):Nat→List UInt8→Option AV
 | 0=>fun _=>none
 | n+1=>qjp k0 (qmV k0 n) n
def qek (_n:Nat) (out3:List UInt8):Option AV :=
 qBV out3
def qzG (n:Nat) (s0:List UInt8):Option AV :=
 bif ((qxi s0)&&true) then
 qmV (qek n) n (z90 s0)
 else none
def qel (s4:Bool):Option AV:=some (.dat .bool s4 none)
def qcg (ret:Bool→Option AV) (k0:Option AV) (next:List UInt8→UInt8→Int→Option AV) (_n:Nat) (s0:List UInt8) (c1:UInt8) (i5:Int):Option AV :=
 bif (decide (i5 < ((List.length s0:Nat):Int))) then
 bif ((decide ((0:Int)≤i5))&&(decide (i5 < (List.length s0:Nat)))) then
 bif ((List.getD s0 (Int.toNat i5) (0:UInt8))==c1) then
 ret true
 else
 next s0 c1 (IntKind.wrap .i64 (i5+(1:Int)))
 else none
 else
 k0
def qdy (ret:Bool→Option AV) (k0:Option AV):Nat→List UInt8→UInt8→Int→Option AV
 | 0=>fun _ _ _=>none
 | n+1=>qcg ret k0 (qdy ret k0 n) n
def qdz (_n:Nat):Option AV :=
 qel false
def qlb (n:Nat) (s0:List UInt8) (c1:UInt8):Option AV :=
 qdy qel (qdz n) n s0 c1 (0:Int)
def qBW (s4:Bool):Option AV:=some (.dat .bool s4 none)
def qJq (_n:Nat) (c0:UInt8) (kinds1:Int):Option AV :=
 qBW ((bits .and .i64 (z128 c0) kinds1) != (0:Int))
def qmW (s2:UInt8):Option AV:=some (.dat .byte s2 none)
def qwx (_n:Nat) (n0:Int):Option AV :=
 bif (decide ((Int.tmod (IntKind.wrap .i64 ((Int.tmod n0 (16:Int))+(16:Int))) (16:Int)) < (10:Int))) then
 qmW (UInt8.ofNat (Int.toNat (IntKind.wrap .u8 (IntKind.wrap .i64 ((48:Int)+(Int.tmod (IntKind.wrap .i64 ((Int.tmod n0 (16:Int))+(16:Int))) (16:Int)))))))
 else
 qmW (UInt8.ofNat (Int.toNat (IntKind.wrap .u8 (IntKind.wrap .i64 ((IntKind.wrap .i64 ((65:Int)+(Int.tmod (IntKind.wrap .i64 ((Int.tmod n0 (16:Int))+(16:Int))) (16:Int)))) - (10:Int))))))
def qwy (s6:List UInt8):Option AV:=some (.dat (.sl .byte) s6 (some (6,5)))
def qwz (_n:Nat) (b0:List UInt8) (sign1:UInt8) (c2:UInt8):Option AV :=
 bif (decide (List.length ([]:List UInt8)+List.length b0≤room)) then
 bif ((qcq (IntKind.wrap .i64 (Int.tdiv (IntKind.wrap .i64 ((UInt8.toNat c2:Nat):Int)) (16:Int))))&&true) then
 bif ((qcq (Int.tmod (IntKind.wrap .i64 ((UInt8.toNat c2:Nat):Int)) (16:Int)))&&true) then
 bif (decide (List.length (([]:List UInt8)++b0)+List.length ([sign1,(z184 (IntKind.wrap .i64 (Int.tdiv (IntKind.wrap .i64 ((UInt8.toNat c2:Nat):Int)) (16:Int)))),(z184 (Int.tmod (IntKind.wrap .i64 ((UInt8.toNat c2:Nat):Int)) (16:Int)))]:List UInt8)≤room)) then
 qwy ((([]:List UInt8)++b0)++([sign1,(z184 (IntKind.wrap .i64 (Int.tdiv (IntKind.wrap .i64 ((UInt8.toNat c2:Nat):Int)) (16:Int)))),(z184 (Int.tmod (IntKind.wrap .i64 ((UInt8.toNat c2:Nat):Int)) (16:Int)))]:List UInt8))
 else none
 else none
 else none
 else none
def qpE (s2:List UInt8):Option AV:=some (.dat (.sl .byte) s2 (some (2,5)))
def qDH (_n:Nat) (c0:UInt8):Option AV :=
 bif (c0==(32:UInt8)) then
 qpE ([(95:UInt8)]:List UInt8)
 else
 bif (z82 c0 (128:Int)) then
 qpE ([c0]:List UInt8)
 else
 bif ((qqd ([]:List UInt8) (61:UInt8) c0)&&true) then
 qpE (z137 ([]:List UInt8) (61:UInt8) c0)
 else none
def qBX (s2:List UInt8):Option AV:=some (.dat (.sl .byte) s2 (some (2,5)))
def qem (k0:List UInt8→Option AV) (next:List UInt8→List UInt8→Int→Option AV) (_n:Nat) (s0:List UInt8) (out3:List UInt8) (i4:Int):Option AV :=
 bif (decide (i4 < ((List.length s0:Nat):Int))) then
 bif ((decide ((0:Int)≤i4))&&(decide (i4 < (List.length s0:Nat)))) then
 bif (decide (List.length out3+List.length (z91 (List.getD s0 (Int.toNat i4) (0:UInt8)))≤room)) then
 next s0 (out3++(z91 (List.getD s0 (Int.toNat i4) (0:UInt8)))) (IntKind.wrap .i64 (i4+(1:Int)))
 else none
 else none
 else
 k0 out3
def qmX (k0:List UInt8→Option AV):Nat→List UInt8→List UInt8→Int→Option AV
 | 0=>fun _ _ _=>none
 | n+1=>qem k0 (qmX k0 n) n
def qen (_n:Nat) (out3:List UInt8):Option AV :=
 qBX out3
def qzH (n:Nat) (s0:List UInt8):Option AV :=
 qmX (qen n) n s0 ([]:List UInt8) (0:Int)
def qgE (s2:List (List UInt8)):Option AV:=some (.dat (.sl .str) s2 (some (2,9)))
def qDI (_n:Nat) (n0:Int):Option AV :=
 bif (n0==(1:Int)) then
 qgE ([([117,115,45,97,115,99,105,105]:List UInt8),([97,115,99,105,105]:List UInt8),([97,110,115,105,95,120,51,46,52,45,49,57,54,56]:List UInt8),([105,115,111,54,52,54,45,117,115]:List UInt8)]:List (List UInt8))
 else
 bif (n0==(2:Int)) then
 qgE ([([105,115,111,45,56,56,53,57,45,49]:List UInt8),([105,115,111,95,56,56,53,57,45,49]:List UInt8),([108,97,116,105,110,49]:List UInt8),([108,49]:List UInt8)]:List (List UInt8))
 else
 bif (n0==(3:Int)) then
 qgE ([([105,115,111,45,56,56,53,57,45,49,53]:List UInt8),([105,115,111,95,56,56,53,57,45,49,53]:List UInt8),([108,97,116,105,110,45,57]:List UInt8)]:List (List UInt8))
 else
 bif (n0==(4:Int)) then
 qgE ([([119,105,110,100,111,119,115,45,49,50,53,50]:List UInt8),([99,112,49,50,53,50]:List UInt8)]:List (List UInt8))
 else
 bif (n0==(5:Int)) then
 qgE ([([117,116,102,45,56]:List UInt8),([117,116,102,56]:List UInt8)]:List (List UInt8))
 else
 qgE ([]:List (List UInt8))
def qwA (s2:List UInt8):Option AV:=some (.dat .str s2 none)
def qDJ (_n:Nat) (n0:Int):Option AV :=
 bif (((List.length (z92 n0):Nat):Int)==(0:Int)) then
 qwA ([]:List UInt8)
 else
 bif ((decide ((0:Int)≤(0:Int)))&&(decide ((0:Int) < (List.length (z92 n0):Nat)))) then
 qwA (List.getD (z92 n0) (Int.toNat (0:Int)) ([]:List UInt8))
 else none
def qad (s6:List UInt8) (s7:Int):Option AV:=some (.tup [(.dat (.sl .byte) s6 none),(.dat (.int .i64) s7 none)])
def qDK (_n:Nat) (charset0:Int) (code1:Int) (s2:List UInt8):Option AV :=
 bif (decide (charset0 < (1:Int))) then
 qad ([]:List UInt8) (10:Int)
 else
 bif (decide ((5:Int) < charset0)) then
 qad ([]:List UInt8) (10:Int)
 else
 bif (code1 != (1:Int)) then
 bif (code1 != (2:Int)) then
 qad ([]:List UInt8) (3:Int)
 else
 bif (((List.length s2:Nat):Int)==(0:Int)) then
 qad ([]:List UInt8) (3:Int)
 else
 bif ((qjC s2)&&true) then
 bif (code1==(2:Int)) then
 bif ((qjB s2)&&true) then
 bif (decide (List.length ([61,63]:List UInt8)+List.length (z51 charset0)≤9223372036854775807)) then
 bif (decide (List.length (([61,63]:List UInt8)++(z51 charset0))+List.length ([63,81,63]:List UInt8)≤9223372036854775807)) then
 bif (decide (List.length ((([61,63]:List UInt8)++(z51 charset0))++([63,81,63]:List UInt8))≤room)) then
 bif (decide (List.length ((([61,63]:List UInt8)++(z51 charset0))++([63,81,63]:List UInt8))+List.length (z50 s2)≤room)) then
 bif (decide (List.length (((([61,63]:List UInt8)++(z51 charset0))++([63,81,63]:List UInt8))++(z50 s2))+List.length ([(63:UInt8),(61:UInt8)]:List UInt8)≤room)) then
 bif (decide ((75:Int) < ((List.length ((((([61,63]:List UInt8)++(z51 charset0))++([63,81,63]:List UInt8))++(z50 s2))++([(63:UInt8),(61:UInt8)]:List UInt8)):Nat):Int))) then
 qad ([]:List UInt8) (12:Int)
 else
 qad ((((([61,63]:List UInt8)++(z51 charset0))++([63,81,63]:List UInt8))++(z50 s2))++([(63:UInt8),(61:UInt8)]:List UInt8)) (0:Int)
 else none
 else none
 else none
 else none
 else none
 else none
 else
 bif (decide (List.length ([61,63]:List UInt8)+List.length (z51 charset0)≤9223372036854775807)) then
 bif (decide (List.length (([61,63]:List UInt8)++(z51 charset0))+List.length ([63,66,63]:List UInt8)≤9223372036854775807)) then
 bif (decide (List.length ((([61,63]:List UInt8)++(z51 charset0))++([63,66,63]:List UInt8))≤room)) then
 bif (decide (List.length ((([61,63]:List UInt8)++(z51 charset0))++([63,66,63]:List UInt8))+List.length (z49 s2)≤room)) then
 bif (decide (List.length (((([61,63]:List UInt8)++(z51 charset0))++([63,66,63]:List UInt8))++(z49 s2))+List.length ([(63:UInt8),(61:UInt8)]:List UInt8)≤room)) then
 bif (decide ((75:Int) < ((List.length ((((([61,63]:List UInt8)++(z51 charset0))++([63,66,63]:List UInt8))++(z49 s2))++([(63:UInt8),(61:UInt8)]:List UInt8)):Nat):Int))) then
 qad ([]:List UInt8) (12:Int)
 else
 qad ((((([61,63]:List UInt8)++(z51 charset0))++([63,66,63]:List UInt8))++(z49 s2))++([(63:UInt8),(61:UInt8)]:List UInt8)) (0:Int)
 else none
 else none
 else none
 else none
 else none
 else none
 else
 bif (((List.length s2:Nat):Int)==(0:Int)) then
 qad ([]:List UInt8) (3:Int)
 else
 bif ((qjC s2)&&true) then
 bif (code1==(2:Int)) then
 bif ((qjB s2)&&true) then
 bif (decide (List.length ([61,63]:List UInt8)+List.length (z51 charset0)≤9223372036854775807)) then
 bif (decide (List.length (([61,63]:List UInt8)++(z51 charset0))+List.length ([63,81,63]:List UInt8)≤9223372036854775807)) then
 bif (decide (List.length ((([61,63]:List UInt8)++(z51 charset0))++([63,81,63]:List UInt8))≤room)) then
 bif (decide (List.length ((([61,63]:List UInt8)++(z51 charset0))++([63,81,63]:List UInt8))+List.length (z50 s2)≤room)) then
 bif (decide (List.length (((([61,63]:List UInt8)++(z51 charset0))++([63,81,63]:List UInt8))++(z50 s2))+List.length ([(63:UInt8),(61:UInt8)]:List UInt8)≤room)) then
 bif (decide ((75:Int) < ((List.length ((((([61,63]:List UInt8)++(z51 charset0))++([63,81,63]:List UInt8))++(z50 s2))++([(63:UInt8),(61:UInt8)]:List UInt8)):Nat):Int))) then
 qad ([]:List UInt8) (12:Int)
 else
 qad ((((([61,63]:List UInt8)++(z51 charset0))++([63,81,63]:List UInt8))++(z50 s2))++([(63:UInt8),(61:UInt8)]:List UInt8)) (0:Int)
 else none
 else none
 else none
 else none
 else none
 else none
 else
 bif (decide (List.length ([61,63]:List UInt8)+List.length (z51 charset0)≤9223372036854775807)) then
 bif (decide (List.length (([61,63]:List UInt8)++(z51 charset0))+List.length ([63,66,63]:List UInt8)≤9223372036854775807)) then
 bif (decide (List.length ((([61,63]:List UInt8)++(z51 charset0))++([63,66,63]:List UInt8))≤room)) then
 bif (decide (List.length ((([61,63]:List UInt8)++(z51 charset0))++([63,66,63]:List UInt8))+List.length (z49 s2)≤room)) then
 bif (decide (List.length (((([61,63]:List UInt8)++(z51 charset0))++([63,66,63]:List UInt8))++(z49 s2))+List.length ([(63:UInt8),(61:UInt8)]:List UInt8)≤room)) then
 bif (decide ((75:Int) < ((List.length ((((([61,63]:List UInt8)++(z51 charset0))++([63,66,63]:List UInt8))++(z49 s2))++([(63:UInt8),(61:UInt8)]:List UInt8)):Nat):Int))) then
 qad ([]:List UInt8) (12:Int)
 else
 qad ((((([61,63]:List UInt8)++(z51 charset0))++([63,66,63]:List UInt8))++(z49 s2))++([(63:UInt8),(61:UInt8)]:List UInt8)) (0:Int)
 else none
 else none
 else none
 else none
 else none
 else none
def qpF (s2:Int):Option AV:=some (.dat (.int .i64) s2 none)
def qDL (_n:Nat) (charset0:Int):Option AV :=
 bif (decide (charset0 < (1:Int))) then
 qpF (0:Int)
 else
 bif (decide ((5:Int) < charset0)) then
 qpF (0:Int)
 else
 qpF (IntKind.wrap .i64 ((7:Int)+((List.length (z51 charset0):Nat):Int)))
def qwB (s2:Int):Option AV:=some (.dat (.int .i32) s2 none)
def qBY (_n:Nat) (x0:UInt8):Option AV :=
 qwB (IntKind.wrap .i32 ((UInt8.toNat x0:Nat):Int))
def qjq (s2:UInt8) (s3:Bool):Option AV:=some (.tup [(.dat .byte s2 none),(.dat .bool s3 none)])
def qff (ret:UInt8→Bool→Option AV) (k0:Option AV) (next:Int→Int→Option AV) (_n:Nat) (c0:Int) (n4:Int):Option AV :=
 bif (decide (n4 < (256:Int))) then
 bif ((z210 (UInt8.ofNat (Int.toNat (IntKind.wrap .u8 n4))))==c0) then
 bif (c0 != (65533:Int)) then
 ret (UInt8.ofNat (Int.toNat (IntKind.wrap .u8 n4))) true
 else
 next c0 (IntKind.wrap .i64 (n4+(1:Int)))
 else
 next c0 (IntKind.wrap .i64 (n4+(1:Int)))
 else
 k0
def qeH (ret:UInt8→Bool→Option AV) (k0:Option AV):Nat→Int→Int→Option AV
 | 0=>fun _ _=>none
 | n+1=>qff ret k0 (qeH ret k0 n) n
def qfg (_n:Nat):Option AV :=
 qjq (0:UInt8) false
def qpG (n:Nat) (c0:Int):Option AV :=
 qeH qjq (qfg n) n c0 (0:Int)
def qcn (s2:Int):Option AV:=some (.dat (.int .i32) s2 none)
def qDM (_n:Nat) (x0:UInt8):Option AV :=
 bif (x0==(164:UInt8)) then
 qcn (8364:Int)
 else
 bif (x0==(166:UInt8)) then
 qcn (352:Int)
 else
 bif (x0==(168:UInt8)) then
 qcn (353:Int)
 else
 bif (x0==(180:UInt8)) then
 qcn (381:Int)
 else
 bif (x0==(184:UInt8)) then
 qcn (382:Int)
 else
 bif (x0==(188:UInt8)) then
 qcn (338:Int)
 else
 bif (x0==(189:UInt8)) then
 qcn (339:Int)
 else
 bif (x0==(190:UInt8)) then
 qcn (376:Int)
 else
 qcn (IntKind.wrap .i32 ((UInt8.toNat x0:Nat):Int))
def qgF (s2:UInt8) (s3:Bool):Option AV:=some (.tup [(.dat .byte s2 none),(.dat .bool s3 none)])
def qfh (ret:UInt8→Bool→Option AV) (k0:Option AV) (next:Int→Int→Option AV) (_n:Nat) (c0:Int) (n4:Int):Option AV :=
 bif (decide (n4 < (256:Int))) then
 bif ((z64 (UInt8.ofNat (Int.toNat (IntKind.wrap .u8 n4))))==c0) then
 bif (c0 != (65533:Int)) then
 ret (UInt8.ofNat (Int.toNat (IntKind.wrap .u8 n4))) true
 else
 next c0 (IntKind.wrap .i64 (n4+(1:Int)))
 else
 next c0 (IntKind.wrap .i64 (n4+(1:Int)))
 else
 k0
def qgG (ret:UInt8→Bool→Option AV) (k0:Option AV):Nat→Int→Int→Option AV
 | 0=>fun _ _=>none
 | n+1=>qfh ret k0 (qgG ret k0 n) n
def qdA (_n:Nat):Option AV :=
 qgF (0:UInt8) false
def qpH (n:Nat) (c0:Int):Option AV :=
 qgG qgF (qdA n) n c0 (0:Int)
def qpI (s2:Int):Option AV:=some (.dat (.int .i32) s2 none)
def qDN (_n:Nat) (x0:UInt8):Option AV :=
 bif (decide (x0 < (128:UInt8))) then
 qpI (IntKind.wrap .i32 ((UInt8.toNat x0:Nat):Int))
 else
 bif (decide ((159:UInt8) < x0)) then
 qpI (IntKind.wrap .i32 ((UInt8.toNat x0:Nat):Int))
 else
 bif ((decide ((0:Int)≤((UInt8.toNat (x0 - (128:UInt8)):Nat):Int)))&&(decide (((UInt8.toNat (x0 - (128:UInt8)):Nat):Int) < (List.length ([(8364:Int),(65533:Int),(8218:Int),(402:Int),(8222:Int),(8230:Int),(8224:Int),(8225:Int),(710:Int),(8240:Int),(352:Int),(8249:Int),(338:Int),(65533:Int),(381:Int),(65533:Int),(65533:Int),(8216:Int),(8217:Int),(8220:Int),(8221:Int),(8226:Int),(8211:Int),(8212:Int),(732:Int),(8482:Int),(353:Int),(8250:Int),(339:Int),(65533:Int),(382:Int),(376:Int)]:List Int):Nat)))) then
 qpI (List.getD ([(8364:Int),(65533:Int),(8218:Int),(402:Int),(8222:Int),(8230:Int),(8224:Int),(8225:Int),(710:Int),(8240:Int),(352:Int),(8249:Int),(338:Int),(65533:Int),(381:Int),(65533:Int),(65533:Int),(8216:Int),(8217:Int),(8220:Int),(8221:Int),(8226:Int),(8211:Int),(8212:Int),(732:Int),(8482:Int),(353:Int),(8250:Int),(339:Int),(65533:Int),(382:Int),(376:Int)]:List Int) (Int.toNat ((UInt8.toNat (x0 - (128:UInt8)):Nat):Int)) (0:Int))
 else none
def qgH (s2:UInt8) (s3:Bool):Option AV:=some (.tup [(.dat .byte s2 none),(.dat .bool s3 none)])
def qfi (ret:UInt8→Bool→Option AV) (k0:Option AV) (next:Int→Int→Option AV) (_n:Nat) (c0:Int) (n4:Int):Option AV :=
 bif (decide (n4 < (256:Int))) then
 bif ((z65 (UInt8.ofNat (Int.toNat (IntKind.wrap .u8 n4))))==c0) then
 bif (c0 != (65533:Int)) then
 ret (UInt8.ofNat (Int.toNat (IntKind.wrap .u8 n4))) true
 else
 next c0 (IntKind.wrap .i64 (n4+(1:Int)))
 else
 next c0 (IntKind.wrap .i64 (n4+(1:Int)))
 else
 k0
def qgI (ret:UInt8→Bool→Option AV) (k0:Option AV):Nat→Int→Int→Option AV
 | 0=>fun _ _=>none
 | n+1=>qfi ret k0 (qgI ret k0 n) n
def qdB (_n:Nat):Option AV :=
 qgH (0:UInt8) false
def qpJ (n:Nat) (c0:Int):Option AV :=
 qgI qgH (qdB n) n c0 (0:Int)
def qmY (s2:Bool):Option AV:=some (.dat .bool s2 none)
def qwC (_n:Nat) (c0:Int):Option AV :=
 bif (decide ((55296:Int)≤c0)) then
 qmY (decide (c0≤(57343:Int)))
 else
 qmY false
def qjr (s2:Bool):Option AV:=some (.dat .bool s2 none)
def qwD (_n:Nat) (c0:Int):Option AV :=
 bif (decide ((0:Int)≤c0)) then
 bif (decide (c0≤(1114111:Int))) then
 qjr (!(z234 c0))
 else
 qjr false
 else
 qjr false
def qbD (s4:Bool):Option AV:=some (.dat .bool s4 none)
def qwE (_n:Nat) (charset0:Int) (c1:Int):Option AV :=
 bif (charset0==(1:Int)) then
 bif (decide ((0:Int)≤c1)) then
 qbD (decide (c1 < (128:Int)))
 else
 qbD false
 else
 bif (charset0==(2:Int)) then
 qbD ((z168 c1).2)
 else
 bif (charset0==(3:Int)) then
 qbD ((z169 c1).2)
 else
 bif (charset0==(4:Int)) then
 qbD ((z170 c1).2)
 else
 bif (charset0==(5:Int)) then
 qbD (z209 c1)
 else
 qbD false
def qeo (s2:List UInt8):Option AV:=some (.dat (.sl .byte) s2 (some (2,5)))
def qwF (_n:Nat) (c0:Int):Option AV :=
 bif (!(z209 c0)) then
 qeo ([]:List UInt8)
 else
 bif (decide ((IntKind.wrap .i64 c0) < (128:Int))) then
 qeo ([(UInt8.ofNat (Int.toNat (IntKind.wrap .u8 (IntKind.wrap .i64 c0))))]:List UInt8)
 else
 bif (decide ((IntKind.wrap .i64 c0) < (2048:Int))) then
 qeo ([(UInt8.ofNat (Int.toNat (IntKind.wrap .u8 (IntKind.wrap .i64 ((192:Int)+(IntKind.wrap .i64 (Int.tdiv (IntKind.wrap .i64 c0) (64:Int)))))))),(UInt8.ofNat (Int.toNat (IntKind.wrap .u8 (IntKind.wrap .i64 ((128:Int)+(Int.tmod (IntKind.wrap .i64 c0) (64:Int)))))))]:List UInt8)
 else
 bif (decide ((IntKind.wrap .i64 c0) < (65536:Int))) then
 qeo ([(UInt8.ofNat (Int.toNat (IntKind.wrap .u8 (IntKind.wrap .i64 ((224:Int)+(IntKind.wrap .i64 (Int.tdiv (IntKind.wrap .i64 c0) (4096:Int)))))))),(UInt8.ofNat (Int.toNat (IntKind.wrap .u8 (IntKind.wrap .i64 ((128:Int)+(Int.tmod (IntKind.wrap .i64 (Int.tdiv (IntKind.wrap .i64 c0) (64:Int))) (64:Int))))))),(UInt8.ofNat (Int.toNat (IntKind.wrap .u8 (IntKind.wrap .i64 ((128:Int)+(Int.tmod (IntKind.wrap .i64 c0) (64:Int)))))))]:List UInt8)
 else
 qeo ([(UInt8.ofNat (Int.toNat (IntKind.wrap .u8 (IntKind.wrap .i64 ((240:Int)+(IntKind.wrap .i64 (Int.tdiv (IntKind.wrap .i64 c0) (262144:Int)))))))),(UInt8.ofNat (Int.toNat (IntKind.wrap .u8 (IntKind.wrap .i64 ((128:Int)+(Int.tmod (IntKind.wrap .i64 (Int.tdiv (IntKind.wrap .i64 c0) (4096:Int))) (64:Int))))))),(UInt8.ofNat (Int.toNat (IntKind.wrap .u8 (IntKind.wrap .i64 ((128:Int)+(Int.tmod (IntKind.wrap .i64 (Int.tdiv (IntKind.wrap .i64 c0) (64:Int))) (64:Int))))))),(UInt8.ofNat (Int.toNat (IntKind.wrap .u8 (IntKind.wrap .i64 ((128:Int)+(Int.tmod (IntKind.wrap .i64 c0) (64:Int)))))))]:List UInt8)
def qcG (s4:List UInt8):Option AV:=some (.dat (.sl .byte) s4 (some (4,5)))
def qwG (_n:Nat) (charset0:Int) (c1:Int):Option AV :=
 bif (!(z167 charset0 c1)) then
 qcG ([]:List UInt8)
 else
 bif (charset0==(1:Int)) then
 qcG ([(UInt8.ofNat (Int.toNat (IntKind.wrap .u8 c1)))]:List UInt8)
 else
 bif (charset0==(2:Int)) then
 qcG ([((z168 c1).1)]:List UInt8)
 else
 bif (charset0==(3:Int)) then
 qcG ([((z169 c1).1)]:List UInt8)
 else
 bif (charset0==(4:Int)) then
 qcG ([((z170 c1).1)]:List UInt8)
 else
 qcG (z171 c1)
def qeI (s4:List UInt8) (s5:Int):Option AV:=some (.tup [(.dat (.sl .byte) s4 none),(.dat (.int .i64) s5 none)])
def qep (ret:List UInt8→Int→Option AV) (k0:List UInt8→Option AV) (next:Int→List Int→List UInt8→Int→Option AV) (_n:Nat) (charset0:Int) (t1:List Int) (out6:List UInt8) (i7:Int):Option AV :=
 bif (decide (i7 < ((List.length t1:Nat):Int))) then
 bif ((decide ((0:Int)≤i7))&&(decide (i7 < (List.length t1:Nat)))) then
 bif (((List.length (z121 charset0 (List.getD t1 (Int.toNat i7) (0:Int))):Nat):Int)==(0:Int)) then
 ret ([]:List UInt8) (9:Int)
 else
 bif (decide (List.length out6+List.length (z121 charset0 (List.getD t1 (Int.toNat i7) (0:Int)))≤room)) then
 next charset0 t1 (out6++(z121 charset0 (List.getD t1 (Int.toNat i7) (0:Int)))) (IntKind.wrap .i64 (i7+(1:Int)))
 else none
 else none
 else
 k0 out6
def qmZ (ret:List UInt8→Int→Option AV) (k0:List UInt8→Option AV):Nat→Int→List Int→List UInt8→Int→Option AV
 | 0=>fun _ _ _ _=>none
 | n+1=>qep ret k0 (qmZ ret k0 n) n
def qeq (_n:Nat) (out6:List UInt8):Option AV :=
 qeI out6 (0:Int)
def qzI (n:Nat) (charset0:Int) (t1:List Int):Option AV :=
 bif (decide (charset0 < (1:Int))) then
 qeI ([]:List UInt8) (10:Int)
 else
 bif (decide ((5:Int) < charset0)) then
 qeI ([]:List UInt8) (10:Int)
 else
 qmZ qeI (qeq n) n charset0 t1 ([]:List UInt8) (0:Int)
def qdC (s6:Int) (s7:Int):Option AV:=some (.tup [(.dat (.int .i64) s6 none),(.dat (.int .i64) s7 none)])
def qDO (_n:Nat) (charset0:Int) (code1:Int) (t2:List Int):Option AV :=
 bif ((qrQ charset0 t2)&&true) then
 bif (((z76 charset0 t2).2)==(10:Int)) then
 qdC (0:Int) ((z76 charset0 t2).2)
 else
 bif (code1 != (1:Int)) then
 bif (code1 != (2:Int)) then
 qdC (0:Int) (3:Int)
 else
 bif (((z76 charset0 t2).2) != (0:Int)) then
 qdC (0:Int) ((z76 charset0 t2).2)
 else
 bif (code1==(1:Int)) then
 bif ((qjC ((z76 charset0 t2).1))&&true) then
 qdC (IntKind.wrap .i64 ((z18 charset0)+((List.length (z49 ((z76 charset0 t2).1)):Nat):Int))) (0:Int)
 else none
 else
 bif ((qjB ((z76 charset0 t2).1))&&true) then
 qdC (IntKind.wrap .i64 ((z18 charset0)+((List.length (z50 ((z76 charset0 t2).1)):Nat):Int))) (0:Int)
 else none
 else
 bif (((z76 charset0 t2).2) != (0:Int)) then
 qdC (0:Int) ((z76 charset0 t2).2)
 else
 bif (code1==(1:Int)) then
 bif ((qjC ((z76 charset0 t2).1))&&true) then
 qdC (IntKind.wrap .i64 ((z18 charset0)+((List.length (z49 ((z76 charset0 t2).1)):Nat):Int))) (0:Int)
 else none
 else
 bif ((qjB ((z76 charset0 t2).1))&&true) then
 qdC (IntKind.wrap .i64 ((z18 charset0)+((List.length (z50 ((z76 charset0 t2).1)):Nat):Int))) (0:Int)
 else none
 else none
def qgJ (s8:Bool):Option AV:=some (.dat .bool s8 none)
def qwH (_n:Nat) (charset0:Int) (code1:Int) (t2:List Int) (room3:Int):Option AV :=
 bif ((qha charset0 code1 t2)&&true) then
 bif (((z69 charset0 code1 t2).2)==(0:Int)) then
 bif (decide ((0:Int) < ((List.length t2:Nat):Int))) then
 bif (decide (((z69 charset0 code1 t2).1)≤room3)) then
 qgJ (decide (((z69 charset0 code1 t2).1)≤(75:Int)))
 else
 qgJ false
 else
 qgJ false
 else
 qgJ false
 else none
def qlc (s8:Int):Option AV:=some (.dat (.int .i64) s8 none)
def qer (ret:Int→Option AV) (k0:List Int→Option AV) (next:Int→Int→List Int→Int→Int→Option AV) (_n:Nat) (charset0:Int) (code1:Int) (t2:List Int) (room3:Int) (n9:Int):Option AV :=
 bif (decide (n9≤((List.length t2:Nat):Int))) then
 bif (((decide ((0:Int)≤((0:Nat):Int)))&&(decide (((0:Nat):Int)≤n9)))&&(decide (n9≤((List.length t2:Nat):Int)))) then
 bif ((qoU charset0 code1 (List.drop (Int.toNat ((0:Nat):Int)) (List.take (Int.toNat n9) t2)) room3)&&true) then
 bif (!(z115 charset0 code1 (List.drop (Int.toNat ((0:Nat):Int)) (List.take (Int.toNat n9) t2)) room3)) then
 ret (IntKind.wrap .i64 (n9 - (1:Int)))
 else
 next charset0 code1 t2 room3 (IntKind.wrap .i64 (n9+(1:Int)))
 else none
 else none
 else
 k0 t2
def qna (ret:Int→Option AV) (k0:List Int→Option AV):Nat→Int→Int→List Int→Int→Int→Option AV
 | 0=>fun _ _ _ _ _=>none
 | n+1=>qer ret k0 (qna ret k0 n) n
def qgK (_n:Nat) (t2:List Int):Option AV :=
 qlc ((List.length t2:Nat):Int)
def qzJ (n:Nat) (charset0:Int) (code1:Int) (t2:List Int) (room3:Int):Option AV :=
 qna qlc (qgK n) n charset0 code1 t2 room3 (1:Int)
def qbl (s8:List (List Int)) (s9:Int):Option AV:=some (.tup [(.dat (.sl (.sl (.int .i32))) s8 none),(.dat (.int .i64) s9 none)])
def qjs (ret:List (List Int)→Int→Option AV) (k0:List (List Int)→Option AV) (next:Int→Int→List Int→List (List Int)→Int→Option AV) (_n:Nat) (charset0:Int) (code1:Int) (t2:List Int) (out12:List (List Int)) (room13:Int):Option AV :=
 bif (decide ((0:Int) < ((List.length t2:Nat):Int))) then
 bif ((qzf charset0 code1 t2 room13)&&true) then
 bif ((z70 charset0 code1 t2 room13)==(0:Int)) then
 ret ([]:List (List Int)) (12:Int)
 else
 bif (((decide ((0:Int)≤((0:Nat):Int)))&&(decide (((0:Nat):Int)≤(z70 charset0 code1 t2 room13))))&&(decide ((z70 charset0 code1 t2 room13)≤((List.length t2:Nat):Int)))) then
 bif (decide (List.length out12+List.length ([(List.drop (Int.toNat ((0:Nat):Int)) (List.take (Int.toNat (z70 charset0 code1 t2 room13)) t2))]:List (List Int))≤room)) then
 bif (((decide ((0:Int)≤(z70 charset0 code1 t2 room13)))&&(decide ((z70 charset0 code1 t2 room13)≤((List.length t2:Nat):Int))))&&(decide (((List.length t2:Nat):Int)≤((List.length t2:Nat):Int)))) then
 next charset0 code1 (List.drop (Int.toNat (z70 charset0 code1 t2 room13)) (List.take (Int.toNat ((List.length t2:Nat):Int)) t2)) (out12++([(List.drop (Int.toNat ((0:Nat):Int)) (List.take (Int.toNat (z70 charset0 code1 t2 room13)) t2))]:List (List Int))) (75:Int)
 else none
 else none
 else none
 else none
 else
 k0 out12
def qnb (ret:List (List Int)→Int→Option AV) (k0:List (List Int)→Option AV):Nat→Int→Int→List Int→List (List Int)→Int→Option AV
 | 0=>fun _ _ _ _ _=>none
 | n+1=>qjs ret k0 (qnb ret k0 n) n
def qgL (_n:Nat) (out12:List (List Int)):Option AV :=
 qbl out12 (0:Int)
def qzK (n:Nat) (charset0:Int) (code1:Int) (t2:List Int) (first3:Int):Option AV :=
 bif ((qha charset0 code1 t2)&&true) then
 bif (((z69 charset0 code1 t2).2) != (0:Int)) then
 qbl ([]:List (List Int)) ((z69 charset0 code1 t2).2)
 else
 qnb qbl (qgL n) n charset0 code1 t2 ([]:List (List Int)) first3
 else none
def qgM (s4:Int):Option AV:=some (.dat (.int .i64) s4 none)
def qch (ret:Int→Option AV) (k0:Option AV) (next:Int→List Int→Int→Option AV) (_n:Nat) (charset0:Int) (t1:List Int) (i5:Int):Option AV :=
 bif (decide (i5 < ((List.length t1:Nat):Int))) then
 bif ((decide ((0:Int)≤i5))&&(decide (i5 < (List.length t1:Nat)))) then
 bif (!(z167 charset0 (List.getD t1 (Int.toNat i5) (0:Int)))) then
 ret i5
 else
 next charset0 t1 (IntKind.wrap .i64 (i5+(1:Int)))
 else none
 else
 k0
def qgN (ret:Int→Option AV) (k0:Option AV):Nat→Int→List Int→Int→Option AV
 | 0=>fun _ _ _=>none
 | n+1=>qch ret k0 (qgN ret k0 n) n
def qdD (_n:Nat):Option AV :=
 qgM (-1:Int)
def qpK (n:Nat) (charset0:Int) (t1:List Int):Option AV :=
 qgN qgM (qdD n) n charset0 t1 (0:Int)
def qjt (s4:Bool):Option AV:=some (.dat .bool s4 none)
def qwI (_n:Nat) (charset0:Int) (t1:List Int):Option AV :=
 bif (decide ((1:Int)≤charset0)) then
 bif (decide (charset0≤(5:Int))) then
 bif ((qoX charset0 t1)&&true) then
 qjt (decide ((z160 charset0 t1) < (0:Int)))
 else none
 else
 qjt false
 else
 qjt false
def qdE (s2:Int) (s3:Int):Option AV:=some (.tup [(.dat (.int .i64) s2 none),(.dat (.int .i64) s3 none)])
def qes (ret:Int→Int→Option AV) (k0:Option AV) (next:List Int→Int→Option AV) (_n:Nat) (t0:List Int) (n4:Int):Option AV :=
 bif (decide (n4≤(5:Int))) then
 bif ((qoY n4 t0)&&true) then
 bif (z119 n4 t0) then
 ret n4 (0:Int)
 else
 next t0 (IntKind.wrap .i64 (n4+(1:Int)))
 else none
 else
 k0
def qju (ret:Int→Int→Option AV) (k0:Option AV):Nat→List Int→Int→Option AV
 | 0=>fun _ _=>none
 | n+1=>qes ret k0 (qju ret k0 n) n
def qcH (_n:Nat):Option AV :=
 qdE (0:Int) (7:Int)
def qzL (n:Nat) (t0:List Int):Option AV :=
 qju qdE (qcH n) n t0 (1:Int)
def qpL (s4:Int) (s5:Int):Option AV:=some (.tup [(.dat (.int .i64) s4 none),(.dat (.int .i64) s5 none)])
def qDP (_n:Nat) (charset0:Int) (t1:List Int):Option AV :=
 bif ((qha charset0 (1:Int) t1)&&true) then
 bif ((qha charset0 (2:Int) t1)&&true) then
 bif (((z69 charset0 (1:Int) t1).2) != (0:Int)) then
 qpL (0:Int) ((z69 charset0 (1:Int) t1).2)
 else
 bif (decide (((z69 charset0 (2:Int) t1).1)≤((z69 charset0 (1:Int) t1).1))) then
 qpL (2:Int) (0:Int)
 else
 qpL (1:Int) (0:Int)
 else none
 else none
def qwJ (s2:Int) (s3:Int) (s4:Int):Option AV:=some (.tup [(.dat (.int .i64) s2 none),(.dat (.int .i64) s3 none),(.dat (.int .i64) s4 none)])
def qDQ (_n:Nat) (t0:List Int):Option AV :=
 bif ((qzh t0)&&true) then
 bif (((z73 t0).2) != (0:Int)) then
 qwJ (0:Int) (0:Int) ((z73 t0).2)
 else
 bif ((qze ((z73 t0).1) t0)&&true) then
 qwJ ((z73 t0).1) ((z74 ((z73 t0).1) t0).1) (0:Int)
 else none
 else none
def qpM (s4:List (List UInt8)) (s5:Int):Option AV:=some (.tup [(.dat (.sl (.sl .byte)) s4 none),(.dat (.int .i64) s5 none)])
def qet (k0:List (List UInt8)→Option AV) (next:Int→Int→List (List Int)→List (List UInt8)→Int→Option AV) (_n:Nat) (n6:Int) (c7:Int) (l9:List (List Int)) (out10:List (List UInt8)) (i11:Int):Option AV :=
 bif (decide (i11 < ((List.length l9:Nat):Int))) then
 bif ((decide ((0:Int)≤i11))&&(decide (i11 < (List.length l9:Nat)))) then
 bif ((qrQ n6 (List.getD l9 (Int.toNat i11) ([]:List Int)))&&true) then
 bif ((qBq n6 c7 ((z76 n6 (List.getD l9 (Int.toNat i11) ([]:List Int))).1))&&true) then
 bif (decide (List.length out10+List.length ([((z16 n6 c7 ((z76 n6 (List.getD l9 (Int.toNat i11) ([]:List Int))).1)).1)]:List (List UInt8))≤room)) then
 next n6 c7 l9 (out10++([((z16 n6 c7 ((z76 n6 (List.getD l9 (Int.toNat i11) ([]:List Int))).1)).1)]:List (List UInt8))) (IntKind.wrap .i64 (i11+(1:Int)))
 else none
 else none
 else none
 else none
 else
 k0 out10
def qnc (k0:List (List UInt8)→Option AV):Nat→Int→Int→List (List Int)→List (List UInt8)→Int→Option AV
 | 0=>fun _ _ _ _ _=>none
 | n+1=>qet k0 (qnc k0 n) n
def qeu (_n:Nat) (out10:List (List UInt8)):Option AV :=
 qpM out10 (0:Int)
def qzM (n:Nat) (t0:List Int) (first1:Int):Option AV :=
 bif ((qzm t0)&&true) then
 bif (((z31 t0).2.2) != (0:Int)) then
 qpM ([]:List (List UInt8)) ((z31 t0).2.2)
 else
 bif ((qzk ((z31 t0).1) ((z31 t0).2.1) t0 first1)&&true) then
 bif (((z29 ((z31 t0).1) ((z31 t0).2.1) t0 first1).2) != (0:Int)) then
 qpM ([]:List (List UInt8)) ((z29 ((z31 t0).1) ((z31 t0).2.1) t0 first1).2)
 else
 qnc (qeu n) n ((z31 t0).1) ((z31 t0).2.1) ((z29 ((z31 t0).1) ((z31 t0).2.1) t0 first1).1) ([]:List (List UInt8)) (0:Int)
 else none
 else none
def qld (s4:List UInt8) (s5:Int):Option AV:=some (.tup [(.dat (.sl .byte) s4 none),(.dat (.int .i64) s5 none)])
def qbE (k0:Int→List UInt8→Option AV) (next:List (List UInt8)→Int→List UInt8→Int→Option AV) (_n:Nat) (l6:List (List UInt8)) (e7:Int) (out8:List UInt8) (i9:Int):Option AV :=
 bif (decide (i9 < ((List.length l6:Nat):Int))) then
 bif (decide ((0:Int) < i9)) then
 bif (decide (List.length out8+List.length ([(13:UInt8),(10:UInt8),(32:UInt8)]:List UInt8)≤room)) then
 bif ((decide ((0:Int)≤i9))&&(decide (i9 < (List.length l6:Nat)))) then
 bif (decide (List.length (out8++([(13:UInt8),(10:UInt8),(32:UInt8)]:List UInt8))+List.length (List.getD l6 (Int.toNat i9) ([]:List UInt8))≤room)) then
 next l6 e7 ((out8++([(13:UInt8),(10:UInt8),(32:UInt8)]:List UInt8))++(List.getD l6 (Int.toNat i9) ([]:List UInt8))) (IntKind.wrap .i64 (i9+(1:Int)))
 else none
 else none
 else none
 else
 bif ((decide ((0:Int)≤i9))&&(decide (i9 < (List.length l6:Nat)))) then
 bif (decide (List.length out8+List.length (List.getD l6 (Int.toNat i9) ([]:List UInt8))≤room)) then
 next l6 e7 (out8++(List.getD l6 (Int.toNat i9) ([]:List UInt8))) (IntKind.wrap .i64 (i9+(1:Int)))
 else none
 else none
 else
 k0 e7 out8
def qnd (k0:Int→List UInt8→Option AV):Nat→List (List UInt8)→Int→List UInt8→Int→Option AV
 | 0=>fun _ _ _ _=>none
 | n+1=>qbE k0 (qnd k0 n) n
def qgO (_n:Nat) (e7:Int) (out8:List UInt8):Option AV :=
 qld out8 e7
def qzN (n:Nat) (t0:List Int) (first1:Int):Option AV :=
 bif ((qrF t0 first1)&&true) then
 qnd (qgO n) n ((z33 t0 first1).1) ((z33 t0 first1).2) ([]:List UInt8) (0:Int)
 else none
def qeT (s4:Bool):Option AV:=some (.dat .bool s4 none)
def qev (ret:Bool→Option AV) (k0:Option AV) (next:List (List UInt8)→List (List UInt8)→Int→Int→Option AV) (_n:Nat) (a5:List (List UInt8)) (b7:List (List UInt8)) (s72:Int) (s73:Int):Option AV :=
 bif (decide (s73 < s72)) then
 bif ((decide ((0:Int)≤s73))&&(decide (s73 < (List.length a5:Nat)))) then
 bif ((decide ((0:Int)≤s73))&&(decide (s73 < (List.length b7:Nat)))) then
 bif ((qrU (List.getD a5 (Int.toNat s73) ([]:List UInt8)) (List.getD b7 (Int.toNat s73) ([]:List UInt8)))&&true) then
 bif (!(z13 (List.getD a5 (Int.toNat s73) ([]:List UInt8)) (List.getD b7 (Int.toNat s73) ([]:List UInt8)))) then
 ret false
 else
 next a5 b7 s72 (IntKind.wrap .i64 (s73+(1:Int)))
 else none
 else none
 else none
 else
 k0
def qne (ret:Bool→Option AV) (k0:Option AV):Nat→List (List UInt8)→List (List UInt8)→Int→Int→Option AV
 | 0=>fun _ _ _ _=>none
 | n+1=>qev ret k0 (qne ret k0 n) n
def qgP (_n:Nat):Option AV :=
 qeT z27
def z8_sh (n:Nat) (t0:List Int) (first1:Int):Option AV :=
 bif (decide ((80:Int) < ((List.length t0:Nat):Int))) then
 qeT z27
 else
 bif ((qjj t0 first1)&&true) then
 bif ((qrF t0 first1)&&true) then
 bif ((qvc t0 first1)&&true) then
 bif ((qzo t0 first1)&&true) then
 bif (((List.length ((z32 t0 first1).1):Nat):Int) != ((List.length ((z33 t0 first1).1):Nat):Int)) then
 qeT false
 else
 bif (((z32 t0 first1).2) != ((z33 t0 first1).2)) then
 qeT false
 else
 bif ((qrU ((z34 t0 first1).1) ((z35 t0 first1).1))&&true) then
 bif (!(z13 ((z34 t0 first1).1) ((z35 t0 first1).1))) then
 qeT false
 else
 bif (((z34 t0 first1).2) != ((z35 t0 first1).2)) then
 qeT false
 else
 bif ((qvd t0 first1)&&true) then
 bif ((z36 t0 first1) != ((List.length ((z33 t0 first1).1):Nat):Int)) then
 qeT false
 else
 qne qeT (qgP n) n ((z32 t0 first1).1) ((z33 t0 first1).1) ((List.length ((z32 t0 first1).1):Nat):Int) (0:Int)
 else none
 else none
 else none
 else none
 else none
 else none
end
end Go.Av
