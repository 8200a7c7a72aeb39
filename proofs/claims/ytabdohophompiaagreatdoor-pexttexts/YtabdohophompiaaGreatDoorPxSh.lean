import Derived.Test.YtabdohophompiaaGreatDoorPxM
namespace Go.Av
set_option linter.unusedSimpArgs false
set_option linter.unusedVariables false
noncomputable section
def quj (s2:Bool):Option AV:=some (dg s2)
def qzY (_n:Nat) (c0:Int):Option AV :=
 quj (decide ((IntKind.wrap .u32 c0) < (256:Int)))
def quk (s0:List (UInt8×(Int×Unit))):Option AV:=some (.dat (.arr 8 (.pair .byte (.pair (.int .i32) .unit))) s0 none)
def qzZ (_n:Nat):Option AV :=
 quk ([((164:UInt8),((8364:Int),())),((166:UInt8),((352:Int),())),((168:UInt8),((353:Int),())),((180:UInt8),((381:Int),())),((184:UInt8),((382:Int),())),((188:UInt8),((338:Int),())),((189:UInt8),((339:Int),())),((190:UInt8),((376:Int),()))]:List (UInt8×(Int×Unit)))
def qbY (s2:UInt8) (s3:Bool):Option AV:=some (.tup [(dm s2),(dg s3)])
def qoZ (ret:UInt8→Bool→Option AV) (k0:Int→Option AV) (next:Int→List (UInt8×(Int×Unit))→Int→Option AV) (_n:Nat) (c0:Int) (s6:List (UInt8×(Int×Unit))) (s7:Int):Option AV :=
 bif (decide (s7 < (8:Int))) then
 bif ((decide (0≤s7))&&(decide (s7 < (8:Nat)))) then
 bif (c0==(s6.getD s7.toNat ((0:UInt8),((0:Int),()))).2.1) then
 ret (s6.getD s7.toNat ((0:UInt8),((0:Int),()))).1 true
 else
 bif (c0==(IntKind.wrap .i32 ((UInt8.toNat (s6.getD s7.toNat ((0:UInt8),((0:Int),()))).1:Nat):Int))) then
 ret (0:UInt8) false
 else
 next c0 s6 (IntKind.wrap .i64 (s7+1))
 else none
 else
 k0 c0
def qhJ (ret:UInt8→Bool→Option AV) (k0:Int→Option AV):Nat→Int→List (UInt8×(Int×Unit))→Int→Option AV
 | 0=>fun _ _ _=>none
 | n+1=>qoZ ret k0 (qhJ ret k0 n) n
def qcv (_n:Nat) (c0:Int):Option AV :=
 bif (decide (c0 < (0:Int))) then
 qbY (0:UInt8) false
 else
 bif (decide ((256:Int)≤c0)) then
 qbY (0:UInt8) false
 else
 qbY (UInt8.ofNat (IntKind.wrap .u8 c0).toNat) true
def qul (n:Nat) (c0:Int):Option AV :=
 qhJ qbY (qcv n) n c0 z130 (0:Int)
def qum (s2:Bool):Option AV:=some (dg s2)
def qAa (_n:Nat) (c0:Int):Option AV :=
 qum ((z113 c0).2)
def qkH (s4:Int):Option AV:=some (dc s4)
def qen (ret:Int→Option AV) (k0:Option AV) (next:List Int→Int→Int→Int→Option AV) (_n:Nat) (s0:List Int) (v1:Int) (s7:Int) (s8:Int):Option AV :=
 bif (decide (s8 < s7)) then
 bif ((decide (0≤s8))&&(decide (s8 < s0.length))) then
 bif (v1==(s0.getD s8.toNat 0)) then
 ret s8
 else
 next s0 v1 s7 (IntKind.wrap .i64 (s8+1))
 else none
 else
 k0
def qlX (ret:Int→Option AV) (k0:Option AV):Nat→List Int→Int→Int→Int→Option AV
 | 0=>fun _ _ _ _=>none
 | n+1=>qen ret k0 (qlX ret k0 n) n
def qgI (_n:Nat):Option AV :=
 qkH (-1:Int)
def qyy (n:Nat) (s0:List Int) (v1:Int):Option AV :=
 qlX qkH (qgI n) n s0 v1 (s0.length:Int) (0:Int)
def qun (s0:List Int):Option AV:=some (.dat (.sl (.int .i32)) s0 none)
def qAb (_n:Nat):Option AV :=
 qun (List.drop 0 (List.take 32 ([(8364:Int),(0:Int),(8218:Int),(402:Int),(8222:Int),(8230:Int),(8224:Int),(8225:Int),(710:Int),(8240:Int),(352:Int),(8249:Int),(338:Int),(0:Int),(381:Int),(0:Int),(0:Int),(8216:Int),(8217:Int),(8220:Int),(8221:Int),(8226:Int),(8211:Int),(8212:Int),(732:Int),(8482:Int),(353:Int),(8250:Int),(339:Int),(0:Int),(382:Int),(376:Int)]:List Int)))
def qR (s2:UInt8) (s3:Bool):Option AV:=some (.tup [(dm s2),(dg s3)])
def qbw (c0:Int):=(UInt8.ofNat (IntKind.wrap .u8 (IntKind.wrap .i64 ((128:Int)+(z89 z131 c0)))).toNat)
def qbx (c0:Int):=(decide ((z89 z131 c0) < (0:Int)))
def qby (c0:Int):=((qpR z131 c0)&&true)
def qup (_n:Nat) (c0:Int):Option AV :=
 bif (decide (0≤c0)) then bif (decide (c0 < (128:Int))) then bif (decide (c0 < (128:Int))) then qR (UInt8.ofNat (IntKind.wrap .u8 c0).toNat) true else bif (decide (c0 < (256:Int))) then qR (0:UInt8) false else bif (qby c0) then bif (qbx c0) then qR (0:UInt8) false else qR (qbw c0) true else none else bif (decide ((160:Int)≤c0)) then bif (decide (c0 < (256:Int))) then qR (UInt8.ofNat (IntKind.wrap .u8 c0).toNat) true else bif (decide (c0 < (256:Int))) then qR (0:UInt8) false else bif (qby c0) then bif (qbx c0) then qR (0:UInt8) false else qR (qbw c0) true else none else bif (decide (c0 < (256:Int))) then qR (0:UInt8) false else bif (qby c0) then bif (qbx c0) then qR (0:UInt8) false else qR (qbw c0) true else none else bif (decide ((160:Int)≤c0)) then bif (decide (c0 < (256:Int))) then qR (UInt8.ofNat (IntKind.wrap .u8 c0).toNat) true else bif (decide (c0 < (256:Int))) then qR (0:UInt8) false else bif (qby c0) then bif (qbx c0) then qR (0:UInt8) false else qR (qbw c0) true else none else bif (decide (c0 < (256:Int))) then qR (0:UInt8) false else bif (qby c0) then bif (qbx c0) then qR (0:UInt8) false else qR (qbw c0) true else none
def quq (s2:Bool):Option AV:=some (dg s2)
def qAc (_n:Nat) (c0:Int):Option AV :=
 quq ((z115 c0).2)
def qlY (s2:Bool):Option AV:=some (dg s2)
def qur (_n:Nat) (c0:Int):Option AV :=
 bif (decide ((55296:Int)≤c0)) then
 qlY (decide (c0≤(57343:Int)))
 else
 qlY false
def qlZ (s2:Bool):Option AV:=some (dg s2)
def qus (_n:Nat) (c0:Int):Option AV :=
 bif (decide ((IntKind.wrap .u32 c0)≤(1114111:Int))) then
 qlZ (!(z127 c0))
 else
 qlZ false
def qfl (s4:Bool):Option AV:=some (dg s4)
def qCz (_n:Nat) (charset0:Int) (c1:Int):Option AV :=
 bif (charset0==(1:Int)) then
 bif (decide (0≤c1)) then
 qfl (decide (c1 < (128:Int)))
 else
 qfl false
 else
 bif (charset0==(2:Int)) then
 qfl (z105 c1)
 else
 bif (charset0==(3:Int)) then
 qfl (z106 c1)
 else
 bif (charset0==(4:Int)) then
 qfl (z107 c1)
 else
 bif (charset0==(5:Int)) then
 qfl (z108 c1)
 else
 qfl false
def qut (s2:Int):Option AV:=some (dc s2)
def qeo (k0:Int→Option AV) (next:Int→Int→Int→Option AV) (_n:Nat) (c0:Int) (s3:Int) (s5:Int):Option AV :=
 bif (decide (s5 < (5:Int))) then
 bif (z72 (IntKind.wrap .i64 (s5+1)) c0) then
 bif (decide (0≤(IntKind.wrap .i64 (s5+1)))) then
 next c0 (bits .or .i64 s3 (IntKind.wrap .i64 ((1:Int)*2 ^ (min (IntKind.wrap .i64 (s5+1)).toNat (IntKind.bits .i64))))) (IntKind.wrap .i64 (s5+1))
 else none
 else
 next c0 s3 (IntKind.wrap .i64 (s5+1))
 else
 k0 s3
def qiY (k0:Int→Option AV):Nat→Int→Int→Int→Option AV
 | 0=>fun _ _ _=>none
 | n+1=>qeo k0 (qiY k0 n) n
def qcX (_n:Nat) (s3:Int):Option AV :=
 qut s3
def qyz (n:Nat) (c0:Int):Option AV :=
 qiY (qcX n) n c0 (0:Int) (0:Int)
def qAd (s2:Int):Option AV:=some (dc s2)
def qCA (_n:Nat) (x0:Int):Option AV :=
 bif ((qso x0)&&true) then
 qAd (z110 x0)
 else none
def quu (s2:Int):Option AV:=some (dc s2)
def qCB (_n:Nat) (sets0:Int):Option AV :=
 bif (sets0==(0:Int)) then
 quu (0:Int)
 else
 bif ((qwk (IntKind.wrap .u64 sets0))&&true) then
 quu (z73 (IntKind.wrap .u64 sets0))
 else none
def quv (s2:Int) (s3:Int):Option AV:=some (.tup [(dc s2),(dc s3)])
def qep (k0:Int→Option AV) (next:Int→List Int→Int→Int→Option AV) (_n:Nat) (all4:Int) (s7:List Int) (s8:Int) (s9:Int):Option AV :=
 bif (decide (s9 < s8)) then
 bif ((decide (0≤s9))&&(decide (s9 < s7.length))) then
 next (bits .and .i64 all4 (z42 (s7.getD s9.toNat 0))) s7 s8 (IntKind.wrap .i64 (s9+1))
 else none
 else
 k0 all4
def qma (k0:Int→Option AV):Nat→Int→List Int→Int→Int→Option AV
 | 0=>fun _ _ _ _=>none
 | n+1=>qep k0 (qma k0 n) n
def qcY (_n:Nat) (all4:Int):Option AV :=
 bif (all4==(0:Int)) then
 quv (0:Int) (7:Int)
 else
 bif ((qwl all4)&&true) then
 quv (z43 all4) (0:Int)
 else none
def qyA (n:Nat) (t0:List Int):Option AV :=
 qma (qcY n) n (62:Int) t0 (t0.length:Int) (0:Int)
def qkI (s2:Int):Option AV:=some (dc s2)
def qeq (ret:Int→Option AV) (k0:Option AV) (next:List Int→Int→Int→Option AV) (_n:Nat) (t0:List Int) (s5:Int) (s6:Int):Option AV :=
 bif (decide (s6 < s5)) then
 bif ((decide (0≤s6))&&(decide (s6 < t0.length))) then
 bif (!(z105 (t0.getD s6.toNat 0))) then
 ret s6
 else
 next t0 s5 (IntKind.wrap .i64 (s6+1))
 else none
 else
 k0
def qmb (ret:Int→Option AV) (k0:Option AV):Nat→List Int→Int→Int→Option AV
 | 0=>fun _ _ _=>none
 | n+1=>qeq ret k0 (qmb ret k0 n) n
def qgJ (_n:Nat):Option AV :=
 qkI (-1:Int)
def qyB (n:Nat) (t0:List Int):Option AV :=
 qmb qkI (qgJ n) n t0 (t0.length:Int) (0:Int)
def quw (s2:List UInt8) (s3:Int):Option AV:=some (.tup [(da s2),(dc s3)])
def qer (k0:List UInt8→Option AV) (next:List UInt8→List Int→Int→Int→Option AV) (_n:Nat) (s4:List UInt8) (s13:List Int) (s14:Int) (s15:Int):Option AV :=
 bif (decide (s15 < s14)) then
 bif ((decide (0≤s15))&&(decide (s15 < s13.length))) then
 bif ((decide (0≤s15))&&(decide (s15 < s4.length))) then
 next (List.set s4 s15.toNat (UInt8.ofNat (IntKind.wrap .u8 (s13.getD s15.toNat 0)).toNat)) s13 s14 (IntKind.wrap .i64 (s15+1))
 else none
 else none
 else
 k0 s4
def qiZ (k0:List UInt8→Option AV):Nat→List UInt8→List Int→Int→Int→Option AV
 | 0=>fun _ _ _ _=>none
 | n+1=>qer k0 (qiZ k0 n) n
def qes (_n:Nat) (s4:List UInt8):Option AV :=
 quw s4 (0:Int)
def qyC (n:Nat) (t0:List Int):Option AV :=
 bif ((qwt t0)&&true) then
 bif ((z92 t0) != (-1:Int)) then
 quw ([]:List UInt8) (9:Int)
 else
 bif (((decide (0≤(t0.length:Int)))&&(decide ((t0.length:Int)≤(t0.length:Int))))&&(decide ((t0.length:Int)≤(room:Int)))) then
 qiZ (qes n) n (List.replicate (t0.length:Int).toNat (0:UInt8)) t0 (t0.length:Int) (0:Int)
 else none
 else none
def qcM (s2:Int):Option AV:=some (dc s2)
def qCC (_n:Nat) (charset0:Int):Option AV :=
 bif (charset0==(1:Int)) then
 qcM (128:Int)
 else
 bif (charset0==(2:Int)) then
 bif (charset0==(2:Int)) then
 qcM (256:Int)
 else
 bif (charset0==(4:Int)) then
 qcM (251:Int)
 else
 bif (charset0==(5:Int)) then
 qcM (1112064:Int)
 else
 qcM (0:Int)
 else
 bif (charset0==(3:Int)) then
 qcM (256:Int)
 else
 bif (charset0==(4:Int)) then
 qcM (251:Int)
 else
 bif (charset0==(5:Int)) then
 qcM (1112064:Int)
 else
 qcM (0:Int)
def qgK (s4:Int):Option AV:=some (dc s4)
def qcw (ret:Int→Option AV) (k0:Option AV) (next:Int→List Int→Int→Int→Option AV) (_n:Nat) (charset0:Int) (s7:List Int) (s8:Int) (s9:Int):Option AV :=
 bif (decide (s9 < s8)) then
 bif ((decide (0≤s9))&&(decide (s9 < s7.length))) then
 bif (!(z72 charset0 (s7.getD s9.toNat 0))) then
 ret s9
 else
 next charset0 s7 s8 (IntKind.wrap .i64 (s9+1))
 else none
 else
 k0
def qgL (ret:Int→Option AV) (k0:Option AV):Nat→Int→List Int→Int→Int→Option AV
 | 0=>fun _ _ _ _=>none
 | n+1=>qcw ret k0 (qgL ret k0 n) n
def qdH (_n:Nat):Option AV :=
 qgK (-1:Int)
def qpa (n:Nat) (charset0:Int) (t1:List Int):Option AV :=
 qgL qgK (qdH n) n charset0 t1 (t1.length:Int) (0:Int)
def qux (s4:Bool):Option AV:=some (dg s4)
def qCD (_n:Nat) (charset0:Int) (t1:List Int):Option AV :=
 bif (decide ((0:Int) < (z74 charset0))) then
 bif ((qnr charset0 t1)&&true) then
 qux ((z111 charset0 t1)==(-1:Int))
 else none
 else
 qux false
def quy (s2:Bool):Option AV:=some (dg s2)
def qCE (_n:Nat) (c0:Int):Option AV :=
 bif (decide (c0 < (32:Int))) then
 quy true
 else
 quy (decide ((126:Int) < c0))
def quz (s2:Bool):Option AV:=some (dg s2)
def qAe (_n:Nat) (c0:Int):Option AV :=
 quz (!(z108 c0))
def qbz (s4:Int):Option AV:=some (dc s4)
def qay (ret:Int→Option AV) (k0:Option AV) (next:List Int→Int→Int→Option AV) (_n:Nat) (s0:List Int) (s7:Int) (s8:Int):Option AV :=
 bif (decide (s8 < s7)) then
 bif ((decide (0≤s8))&&(decide (s8 < s0.length))) then
 bif (z122 (s0.getD s8.toNat 0)) then
 ret s8
 else
 next s0 s7 (IntKind.wrap .i64 (s8+1))
 else none
 else
 k0
def qaW (ret:Int→Option AV) (k0:Option AV):Nat→List Int→Int→Int→Option AV
 | 0=>fun _ _ _=>none
 | n+1=>qay ret k0 (qaW ret k0 n) n
def qaX (_n:Nat):Option AV :=
 qbz (-1:Int)
def qdI (n:Nat) (s0:List Int):Option AV :=
 qaW qbz (qaX n) n s0 (s0.length:Int) (0:Int)
def qbA (s4:Int):Option AV:=some (dc s4)
def qaz (ret:Int→Option AV) (k0:Option AV) (next:List Int→Int→Int→Option AV) (_n:Nat) (s0:List Int) (s7:Int) (s8:Int):Option AV :=
 bif (decide (s8 < s7)) then
 bif ((decide (0≤s8))&&(decide (s8 < s0.length))) then
 bif (z91 (s0.getD s8.toNat 0)) then
 ret s8
 else
 next s0 s7 (IntKind.wrap .i64 (s8+1))
 else none
 else
 k0
def qaY (ret:Int→Option AV) (k0:Option AV):Nat→List Int→Int→Int→Option AV
 | 0=>fun _ _ _=>none
 | n+1=>qaz ret k0 (qaY ret k0 n) n
def qaZ (_n:Nat):Option AV :=
 qbA (-1:Int)
def qdJ (n:Nat) (s0:List Int):Option AV :=
 qaY qbA (qaZ n) n s0 (s0.length:Int) (0:Int)
def qAf (s2:Int):Option AV:=some (dc s2)
def qCF (_n:Nat) (t0:List Int):Option AV :=
 bif ((qcL t0)&&true) then
 qAf (z121 t0)
 else none
def qAg (s2:Bool):Option AV:=some (dg s2)
def qCG (_n:Nat) (t0:List Int):Option AV :=
 bif ((qws t0)&&true) then
 qAg ((z88 t0)==(-1:Int))
 else none
def qet (s2:Int):Option AV:=some (dc s2)
def quA (_n:Nat) (c0:Int):Option AV :=
 bif (!(z108 c0)) then
 qet (0:Int)
 else
 bif (decide (c0 < (128:Int))) then
 qet (1:Int)
 else
 bif (decide (c0 < (2048:Int))) then
 qet (2:Int)
 else
 bif (decide (c0 < (65536:Int))) then
 qet (3:Int)
 else
 qet (4:Int)
def qgM (s2:UInt8):Option AV:=some (dm s2)
def quB (_n:Nat) (n0:Int):Option AV :=
 bif (n0==(2:Int)) then
 qgM (192:UInt8)
 else
 bif (n0==(3:Int)) then
 qgM (224:UInt8)
 else
 bif (n0==(4:Int)) then
 qgM (240:UInt8)
 else
 qgM (0:UInt8)
def qeu (s4:List UInt8) (s5:Int):Option AV:=some (.tup [(da s4),(dc s5)])
def qgN (c1:Int):=([((z129 (z128 c1)) ||| (UInt8.ofNat (IntKind.wrap .u8 (Int.fdiv c1 (2 ^ (min (IntKind.wrap .i64 ((6:Int)*(IntKind.wrap .i64 ((z128 c1) - (1:Int))))).toNat (IntKind.bits .i32))))).toNat))]:List UInt8)
def qba (c1:Int):=([((128:UInt8) ||| ((UInt8.ofNat (IntKind.wrap .u8 (Int.fdiv c1 (2 ^ (min (6:Int).toNat (IntKind.bits .i32))))).toNat) &&& (63:UInt8)))]:List UInt8)
def qbZ (c1:Int):=([((128:UInt8) ||| ((UInt8.ofNat (IntKind.wrap .u8 (Int.fdiv c1 (2 ^ (min (12:Int).toNat (IntKind.bits .i32))))).toNat) &&& (63:UInt8)))]:List UInt8)
def qbb (c1:Int):=([((128:UInt8) ||| ((UInt8.ofNat (IntKind.wrap .u8 c1).toNat) &&& (63:UInt8)))]:List UInt8)
def qab (b0:List UInt8) (c1:Int):=((z53 b0)++(qgN c1))
def quC (_n:Nat) (b0:List UInt8) (c1:Int):Option AV :=
 bif ((z128 c1)==(0:Int)) then qeu ([]:List UInt8) (7:Int) else bif (decide (0≤(IntKind.wrap .i64 ((6:Int)*(IntKind.wrap .i64 ((z128 c1) - (1:Int))))))) then bif ((qgB b0)&&true) then bif (decide (List.length (z53 b0)+List.length (qgN c1)≤room)) then bif ((z128 c1)==(4:Int)) then bif (decide (List.length (qab b0 c1)+List.length (qbZ c1)≤room)) then bif (decide (List.length ((qab b0 c1)++(qbZ c1))+List.length (qba c1)≤room)) then bif (decide (List.length (((qab b0 c1)++(qbZ c1))++(qba c1))+List.length (qbb c1)≤room)) then qeu ((((qab b0 c1)++(qbZ c1))++(qba c1))++(qbb c1)) (0:Int) else none else none else none else bif ((z128 c1)==(3:Int)) then bif (decide (List.length (qab b0 c1)+List.length (qba c1)≤room)) then bif (decide (List.length ((qab b0 c1)++(qba c1))+List.length (qbb c1)≤room)) then qeu (((qab b0 c1)++(qba c1))++(qbb c1)) (0:Int) else none else none else bif ((z128 c1)==(2:Int)) then bif (decide (List.length (qab b0 c1)+List.length (qbb c1)≤room)) then qeu ((qab b0 c1)++(qbb c1)) (0:Int) else none else qeu (qab b0 c1) (0:Int) else none else none else none
def quD (s2:List UInt8) (s3:Int):Option AV:=some (.tup [(da s2),(dc s3)])
def qev (k0:List UInt8→Option AV) (next:List UInt8→List Int→Int→Int→Option AV) (_n:Nat) (out4:List UInt8) (s12:List Int) (s13:Int) (s14:Int):Option AV :=
 bif (decide (s14 < s13)) then
 bif ((decide (0≤s14))&&(decide (s14 < s12.length))) then
 bif ((qnp ([]:List UInt8) (s12.getD s14.toNat 0))&&true) then
 bif (decide (out4.length+List.length ((z112 ([]:List UInt8) (s12.getD s14.toNat 0)).1)≤room)) then
 next (out4++((z112 ([]:List UInt8) (s12.getD s14.toNat 0)).1)) s12 s13 (IntKind.wrap .i64 (s14+1))
 else none
 else none
 else none
 else
 k0 out4
def qmc (k0:List UInt8→Option AV):Nat→List UInt8→List Int→Int→Int→Option AV
 | 0=>fun _ _ _ _=>none
 | n+1=>qev k0 (qmc k0 n) n
def qew (_n:Nat) (out4:List UInt8):Option AV :=
 quD out4 (0:Int)
def qyD (n:Nat) (t0:List Int):Option AV :=
 bif ((qpS t0)&&true) then
 bif (!(z49 t0)) then
 quD ([]:List UInt8) (7:Int)
 else
 qmc (qew n) n ([]:List UInt8) t0 (t0.length:Int) (0:Int)
 else none
def qhK (s2:List UInt8) (s3:Int):Option AV:=some (.tup [(da s2),(dc s3)])
def qex (ret:List UInt8→Int→Option AV) (k0:List UInt8→Option AV) (next:List UInt8→List Int→Int→Int→Option AV) (_n:Nat) (s4:List UInt8) (s9:List Int) (s10:Int) (s11:Int):Option AV :=
 bif (decide (s11 < s10)) then
 bif ((decide (0≤s11))&&(decide (s11 < s9.length))) then
 bif (!((z113 (s9.getD s11.toNat 0)).2)) then
 ret ([]:List UInt8) (9:Int)
 else
 bif (decide (s4.length+List.length ([((z113 (s9.getD s11.toNat 0)).1)]:List UInt8)≤room)) then
 next (s4++([((z113 (s9.getD s11.toNat 0)).1)]:List UInt8)) s9 s10 (IntKind.wrap .i64 (s11+1))
 else none
 else none
 else
 k0 s4
def qmd (ret:List UInt8→Int→Option AV) (k0:List UInt8→Option AV):Nat→List UInt8→List Int→Int→Int→Option AV
 | 0=>fun _ _ _ _=>none
 | n+1=>qex ret k0 (qmd ret k0 n) n
def qey (_n:Nat) (s4:List UInt8):Option AV :=
 qhK s4 (0:Int)
def qyE (n:Nat) (t0:List Int):Option AV :=
 qmd qhK (qey n) n ([]:List UInt8) t0 (t0.length:Int) (0:Int)
def qgO (s2:Int):Option AV:=some (dc s2)
def qcx (ret:Int→Option AV) (k0:Option AV) (next:List Int→Int→Int→Option AV) (_n:Nat) (s5:List Int) (s6:Int) (s7:Int):Option AV :=
 bif (decide (s7 < s6)) then
 bif ((decide (0≤s7))&&(decide (s7 < s5.length))) then
 bif (!(z107 (s5.getD s7.toNat 0))) then
 ret s7
 else
 next s5 s6 (IntKind.wrap .i64 (s7+1))
 else none
 else
 k0
def qgP (ret:Int→Option AV) (k0:Option AV):Nat→List Int→Int→Int→Option AV
 | 0=>fun _ _ _=>none
 | n+1=>qcx ret k0 (qgP ret k0 n) n
def qdK (_n:Nat):Option AV :=
 qgO (-1:Int)
def qpb (n:Nat) (t0:List Int):Option AV :=
 qgP qgO (qdK n) n t0 (t0.length:Int) (0:Int)
def quE (s2:List UInt8) (s3:Int):Option AV:=some (.tup [(da s2),(dc s3)])
def qez (k0:List UInt8→Option AV) (next:List UInt8→List Int→Int→Int→Option AV) (_n:Nat) (s4:List UInt8) (s15:List Int) (s16:Int) (s17:Int):Option AV :=
 bif (decide (s17 < s16)) then
 bif ((decide (0≤s17))&&(decide (s17 < s15.length))) then
 bif (decide (s4.length+List.length ([((z115 (s15.getD s17.toNat 0)).1)]:List UInt8)≤room)) then
 next (s4++([((z115 (s15.getD s17.toNat 0)).1)]:List UInt8)) s15 s16 (IntKind.wrap .i64 (s17+1))
 else none
 else none
 else
 k0 s4
def qme (k0:List UInt8→Option AV):Nat→List UInt8→List Int→Int→Int→Option AV
 | 0=>fun _ _ _ _=>none
 | n+1=>qez k0 (qme k0 n) n
def qeA (_n:Nat) (s4:List UInt8):Option AV :=
 quE s4 (0:Int)
def qyF (n:Nat) (t0:List Int):Option AV :=
 bif ((qnq t0)&&true) then
 bif (decide (0≤(z114 t0))) then
 quE ([]:List UInt8) (9:Int)
 else
 bif (((decide (0≤(0:Int)))&&(decide (0≤(t0.length:Int))))&&(decide ((t0.length:Int)≤(room:Int)))) then
 qme (qeA n) n (List.replicate (0:Int).toNat (0:UInt8)) t0 (t0.length:Int) (0:Int)
 else none
 else none
def qgQ (s4:List UInt8) (s5:Int):Option AV:=some (.tup [(da s4),(dc s5)])
def qCH (_n:Nat) (charset0:Int) (t1:List Int):Option AV :=
 bif ((z74 charset0)==(0:Int)) then
 qgQ ([]:List UInt8) (10:Int)
 else
 bif ((qwx charset0 t1)&&true) then
 bif (!(z75 charset0 t1)) then
 qgQ ([]:List UInt8) (9:Int)
 else
 bif (charset0==(5:Int)) then
 bif ((qww t1)&&true) then
 qgQ ((z76 t1).1) ((z76 t1).2)
 else none
 else
 bif (charset0==(3:Int)) then
 bif ((qwu t1)&&true) then
 qgQ ((z77 t1).1) ((z77 t1).2)
 else none
 else
 bif (charset0==(4:Int)) then
 bif ((qwv t1)&&true) then
 qgQ ((z78 t1).1) ((z78 t1).2)
 else none
 else
 bif ((qpT t1)&&true) then
 qgQ ((z52 t1).1) ((z52 t1).2)
 else none
 else none
def qf (s2:Int):Option AV:=some (dc s2)
def qQ:=(bits .or .i64 (bits .or .i64 (0:Int) (1:Int)) (656:Int))
def qca:=(bits .or .i64 (bits .or .i64 (0:Int) (1:Int)) (2:Int))
def quF (_n:Nat) (c0:UInt8):Option AV :=
 bif (decide (c0 < (32:UInt8))) then bif (c0==(32:UInt8)) then qf (qca) else bif (c0==(9:UInt8)) then qf (qca) else bif (decide ((48:UInt8)≤c0)) then bif (decide (c0≤(57:UInt8))) then qf (bits .or .i64 (bits .or .i64 (0:Int) (1:Int)) (648:Int)) else bif (decide ((65:UInt8)≤c0)) then bif (decide (c0≤(90:UInt8))) then bif (decide (c0≤(90:UInt8))) then qf (qQ) else qf (bits .or .i64 (0:Int) (1:Int)) else bif (decide ((97:UInt8)≤c0)) then bif (decide (c0≤(122:UInt8))) then qf (qQ) else qf (bits .or .i64 (0:Int) (1:Int)) else qf (bits .or .i64 (0:Int) (1:Int)) else bif (decide ((97:UInt8)≤c0)) then bif (decide (c0≤(122:UInt8))) then qf (qQ) else qf (bits .or .i64 (0:Int) (1:Int)) else qf (bits .or .i64 (0:Int) (1:Int)) else bif (decide ((65:UInt8)≤c0)) then bif (decide (c0≤(90:UInt8))) then bif (decide (c0≤(90:UInt8))) then qf (qQ) else qf (bits .or .i64 (0:Int) (1:Int)) else bif (decide ((97:UInt8)≤c0)) then bif (decide (c0≤(122:UInt8))) then qf (qQ) else qf (bits .or .i64 (0:Int) (1:Int)) else qf (bits .or .i64 (0:Int) (1:Int)) else bif (decide ((97:UInt8)≤c0)) then bif (decide (c0≤(122:UInt8))) then qf (qQ) else qf (bits .or .i64 (0:Int) (1:Int)) else qf (bits .or .i64 (0:Int) (1:Int)) else bif (c0==(127:UInt8)) then bif (c0==(32:UInt8)) then qf (qca) else bif (c0==(9:UInt8)) then qf (qca) else bif (decide ((48:UInt8)≤c0)) then bif (decide (c0≤(57:UInt8))) then qf (bits .or .i64 (bits .or .i64 (0:Int) (1:Int)) (648:Int)) else bif (decide ((65:UInt8)≤c0)) then bif (decide (c0≤(90:UInt8))) then bif (decide (c0≤(90:UInt8))) then qf (qQ) else qf (bits .or .i64 (0:Int) (1:Int)) else bif (decide ((97:UInt8)≤c0)) then bif (decide (c0≤(122:UInt8))) then qf (qQ) else qf (bits .or .i64 (0:Int) (1:Int)) else qf (bits .or .i64 (0:Int) (1:Int)) else bif (decide ((97:UInt8)≤c0)) then bif (decide (c0≤(122:UInt8))) then qf (qQ) else qf (bits .or .i64 (0:Int) (1:Int)) else qf (bits .or .i64 (0:Int) (1:Int)) else bif (decide ((65:UInt8)≤c0)) then bif (decide (c0≤(90:UInt8))) then bif (decide (c0≤(90:UInt8))) then qf (qQ) else qf (bits .or .i64 (0:Int) (1:Int)) else bif (decide ((97:UInt8)≤c0)) then bif (decide (c0≤(122:UInt8))) then qf (qQ) else qf (bits .or .i64 (0:Int) (1:Int)) else qf (bits .or .i64 (0:Int) (1:Int)) else bif (decide ((97:UInt8)≤c0)) then bif (decide (c0≤(122:UInt8))) then qf (qQ) else qf (bits .or .i64 (0:Int) (1:Int)) else qf (bits .or .i64 (0:Int) (1:Int)) else bif (c0==(32:UInt8)) then qf (bits .or .i64 (0:Int) (2:Int)) else bif (c0==(9:UInt8)) then qf (bits .or .i64 (0:Int) (2:Int)) else bif (decide ((48:UInt8)≤c0)) then bif (decide (c0≤(57:UInt8))) then qf (bits .or .i64 (0:Int) (648:Int)) else bif (decide ((65:UInt8)≤c0)) then bif (decide (c0≤(90:UInt8))) then bif (decide (c0≤(90:UInt8))) then qf (bits .or .i64 (0:Int) (656:Int)) else qf (0:Int) else bif (decide ((97:UInt8)≤c0)) then bif (decide (c0≤(122:UInt8))) then qf (bits .or .i64 (0:Int) (656:Int)) else qf (0:Int) else qf (0:Int) else bif (decide ((97:UInt8)≤c0)) then bif (decide (c0≤(122:UInt8))) then qf (bits .or .i64 (0:Int) (656:Int)) else qf (0:Int) else qf (0:Int) else bif (decide ((65:UInt8)≤c0)) then bif (decide (c0≤(90:UInt8))) then bif (decide (c0≤(90:UInt8))) then qf (bits .or .i64 (0:Int) (656:Int)) else qf (0:Int) else bif (decide ((97:UInt8)≤c0)) then bif (decide (c0≤(122:UInt8))) then qf (bits .or .i64 (0:Int) (656:Int)) else qf (0:Int) else qf (0:Int) else bif (decide ((97:UInt8)≤c0)) then bif (decide (c0≤(122:UInt8))) then qf (bits .or .i64 (0:Int) (656:Int)) else qf (0:Int) else qf (0:Int)
def quG (s4:Int):Option AV:=some (dc s4)
def qAh (_n:Nat) (s0:List UInt8) (c1:UInt8):Option AV :=
 quG (z146 s0 c1)
def quH (s4:Int):Option AV:=some (dc s4)
def qAi (_n:Nat) (s0:List UInt8) (c1:UInt8):Option AV :=
 quH (z145 s0 c1)
def quI (s4:Bool):Option AV:=some (dg s4)
def qAj (_n:Nat) (s0:List UInt8) (c1:UInt8):Option AV :=
 quI (decide (0≤(z140 s0 c1)))
def qaj (s2:Int):Option AV:=some (dc s2)
def qaF (c0:UInt8):=(bits .or .i64 (z134 c0) (4:Int))
def qcb (c0:UInt8):=(z135 ([40,41,60,62,64,44,59,58,92,34,47,91,93,63,61]:List UInt8) c0)
def qbc (c0:UInt8):=(bits .or .i64 (qaF c0) (128:Int))
def quJ (_n:Nat) (c0:UInt8):Option AV :=
 bif (decide (c0 < (33:UInt8))) then qaj (z134 c0) else bif (decide ((126:UInt8) < c0)) then qaj (z134 c0) else bif (z135 ([33,42,43,45,47]:List UInt8) c0) then bif (z135 ([43,47]:List UInt8) c0) then bif (qcb c0) then qaj (bits .or .i64 (bits .or .i64 (qbc c0) (512:Int)) (32:Int)) else bif (!(z135 ([42,39,37]:List UInt8) c0)) then qaj (bits .or .i64 (bits .or .i64 (bits .or .i64 (qbc c0) (512:Int)) (64:Int)) (256:Int)) else qaj (bits .or .i64 (bits .or .i64 (qbc c0) (512:Int)) (64:Int)) else bif (qcb c0) then qaj (bits .or .i64 (qbc c0) (32:Int)) else bif (!(z135 ([42,39,37]:List UInt8) c0)) then qaj (bits .or .i64 (bits .or .i64 (qbc c0) (64:Int)) (256:Int)) else qaj (bits .or .i64 (qbc c0) (64:Int)) else bif (z135 ([43,47]:List UInt8) c0) then bif (qcb c0) then qaj (bits .or .i64 (bits .or .i64 (qaF c0) (512:Int)) (32:Int)) else bif (!(z135 ([42,39,37]:List UInt8) c0)) then qaj (bits .or .i64 (bits .or .i64 (bits .or .i64 (qaF c0) (512:Int)) (64:Int)) (256:Int)) else qaj (bits .or .i64 (bits .or .i64 (qaF c0) (512:Int)) (64:Int)) else bif (qcb c0) then qaj (bits .or .i64 (qaF c0) (32:Int)) else bif (!(z135 ([42,39,37]:List UInt8) c0)) then qaj (bits .or .i64 (bits .or .i64 (qaF c0) (64:Int)) (256:Int)) else qaj (bits .or .i64 (qaF c0) (64:Int))
def quK (s4:Bool):Option AV:=some (dg s4)
def qAk (_n:Nat) (c0:UInt8) (kinds1:Int):Option AV :=
 quK ((bits .and .i64 (z125 c0) kinds1) != (0:Int))
def quL (s2:Int):Option AV:=some (dc s2)
def qCI (_n:Nat) (c0:UInt8):Option AV :=
 bif (z100 c0 (256:Int)) then
 quL (1:Int)
 else
 quL (3:Int)
def quM (s2:UInt8):Option AV:=some (dm s2)
def quN (_n:Nat) (n0:Int):Option AV :=
 bif ((decide (0≤(bits .and .i64 n0 (15:Int))))&&(decide ((bits .and .i64 n0 (15:Int)) < ([48,49,50,51,52,53,54,55,56,57,65,66,67,68,69,70]:List UInt8).length))) then
 quM (([48,49,50,51,52,53,54,55,56,57,65,66,67,68,69,70]:List UInt8).getD (bits .and .i64 n0 (15:Int)).toNat (0:UInt8))
 else none
def quO (s2:List UInt8):Option AV:=some (db s2 (some (2,5)))
def quP (_n:Nat) (c0:UInt8):Option AV :=
 bif ((qcJ (IntKind.wrap .i64 ((UInt8.toNat (UInt8.ofNat (UInt8.toNat c0 / 2 ^ (min (4:Int).toNat 8))):Nat):Int)))&&true) then
 bif ((qcJ (IntKind.wrap .i64 ((UInt8.toNat c0:Nat):Int)))&&true) then
 quO ([(z132 (IntKind.wrap .i64 ((UInt8.toNat (UInt8.ofNat (UInt8.toNat c0 / 2 ^ (min (4:Int).toNat 8))):Nat):Int))),(z132 (IntKind.wrap .i64 ((UInt8.toNat c0:Nat):Int)))]:List UInt8)
 else none
 else none
def qAl (s6:List UInt8):Option AV:=some (db s6 (some (6,5)))
def qCJ (_n:Nat) (b0:List UInt8) (sign1:UInt8) (c2:UInt8):Option AV :=
 bif ((qgB b0)&&true) then
 bif (decide (List.length (z53 b0)+List.length ([sign1]:List UInt8)≤room)) then
 bif (decide (List.length ((z53 b0)++([sign1]:List UInt8))+List.length (z116 c2)≤room)) then
 qAl (((z53 b0)++([sign1]:List UInt8))++(z116 c2))
 else none
 else none
 else none
def qAm (s2:List UInt8):Option AV:=some (db s2 (some (2,5)))
def qeB (k0:List UInt8→Option AV) (next:List UInt8→List UInt8→Int→Int→Option AV) (_n:Nat) (out3:List UInt8) (s6:List UInt8) (s7:Int) (s8:Int):Option AV :=
 bif (decide (s8 < s7)) then
 bif ((decide (0≤s8))&&(decide (s8 < s6.length))) then
 bif ((z79 (s6.getD s8.toNat (0:UInt8)))==(1:Int)) then
 bif (decide (out3.length+List.length ([(s6.getD s8.toNat (0:UInt8))]:List UInt8)≤room)) then
 next (out3++([(s6.getD s8.toNat (0:UInt8))]:List UInt8)) s6 s7 (IntKind.wrap .i64 (s8+1))
 else none
 else
 bif ((qwr out3 (37:UInt8) (s6.getD s8.toNat (0:UInt8)))&&true) then
 next (z80 out3 (37:UInt8) (s6.getD s8.toNat (0:UInt8))) s6 s7 (IntKind.wrap .i64 (s8+1))
 else none
 else none
 else
 k0 out3
def qmf (k0:List UInt8→Option AV):Nat→List UInt8→List UInt8→Int→Int→Option AV
 | 0=>fun _ _ _ _=>none
 | n+1=>qeB k0 (qmf k0 n) n
def qeC (_n:Nat) (out3:List UInt8):Option AV :=
 qAm out3
def qyG (n:Nat) (s0:List UInt8):Option AV :=
 qmf (qeC n) n ([]:List UInt8) s0 (s0.length:Int) (0:Int)
def qAn (s4:List (List UInt8)):Option AV:=some (.dat (.sl (.sl .byte)) s4 (some (4,22)))
def qaO (t1:List Int) (s11:Int):=(List.drop s11.toNat (List.take (IntKind.wrap .i64 (s11+1)).toNat t1))
def qeD (k0:List (List UInt8)→Option AV) (next:Int→List Int→List (List UInt8)→Int→Int→Option AV) (_n:Nat) (charset0:Int) (t1:List Int) (l5:List (List UInt8)) (s10:Int) (s11:Int):Option AV :=
 bif (decide (s11 < s10)) then bif (((decide (0≤s11))&&(decide (s11≤(IntKind.wrap .i64 (s11+1)))))&&(decide ((IntKind.wrap .i64 (s11+1))≤(t1.length:Int)))) then bif ((qwy charset0 (qaO t1 s11))&&true) then bif ((qyd ((z44 charset0 (qaO t1 s11)).1))&&true) then bif (decide (l5.length+List.length ([(z45 ((z44 charset0 (qaO t1 s11)).1))]:List (List UInt8))≤room)) then next charset0 t1 (l5++([(z45 ((z44 charset0 (qaO t1 s11)).1))]:List (List UInt8))) s10 (IntKind.wrap .i64 (s11+1)) else none else none else none else none else k0 l5
def qmg (k0:List (List UInt8)→Option AV):Nat→Int→List Int→List (List UInt8)→Int→Int→Option AV
 | 0=>fun _ _ _ _ _=>none
 | n+1=>qeD k0 (qmg k0 n) n
def qeE (_n:Nat) (l5:List (List UInt8)):Option AV :=
 qAn l5
def qyH (n:Nat) (charset0:Int) (t1:List Int):Option AV :=
 qmg (qeE n) n charset0 t1 ([]:List (List UInt8)) (t1.length:Int) (0:Int)
def qAo (s4:Int):Option AV:=some (dc s4)
def qeF (k0:Int→Option AV) (next:Int→Int→List UInt8→Int→Int→Option AV) (_n:Nat) (kinds1:Int) (n5:Int) (s8:List UInt8) (s9:Int) (s10:Int):Option AV :=
 bif (decide (s10 < s9)) then
 bif ((decide (0≤s10))&&(decide (s10 < s8.length))) then
 bif (z100 (s8.getD s10.toNat (0:UInt8)) kinds1) then
 next kinds1 (IntKind.wrap .i64 (n5+1)) s8 s9 (IntKind.wrap .i64 (s10+1))
 else
 next kinds1 n5 s8 s9 (IntKind.wrap .i64 (s10+1))
 else none
 else
 k0 n5
def qja (k0:Int→Option AV):Nat→Int→Int→List UInt8→Int→Int→Option AV
 | 0=>fun _ _ _ _ _=>none
 | n+1=>qeF k0 (qja k0 n) n
def qgR (_n:Nat) (n5:Int):Option AV :=
 qAo n5
def qyI (n:Nat) (s0:List UInt8) (kinds1:Int):Option AV :=
 qja (qgR n) n kinds1 (0:Int) s0 (s0.length:Int) (0:Int)
def quQ (s4:Bool):Option AV:=some (dg s4)
def qCK (_n:Nat) (s0:List UInt8) (kinds1:Int):Option AV :=
 bif ((qwB s0 kinds1)&&true) then
 quQ ((z64 s0 kinds1)==(s0.length:Int))
 else none
def qpc (s2:Bool):Option AV:=some (dg s2)
def qCL (_n:Nat) (name0:List UInt8):Option AV :=
 bif (decide ((0:Int) < (name0.length:Int))) then
 bif (decide ((name0.length:Int)≤(30:Int))) then
 bif ((qpW name0 (256:Int))&&true) then
 qpc (z36 name0 (256:Int))
 else none
 else
 qpc false
 else
 qpc false
def qAp (s4:Bool):Option AV:=some (dg s4)
def qCM (_n:Nat) (s0:List Int) (v1:Int):Option AV :=
 bif ((qpR s0 v1)&&true) then
 qAp (decide (0≤(z89 s0 v1)))
 else none
def qkJ (s4:Int):Option AV:=some (dc s4)
def qCN (_n:Nat) (name0:List UInt8) (t1:List Int):Option AV :=
 bif ((qqJ name0)&&true) then
 bif (!(z18 name0)) then
 qkJ (13:Int)
 else
 bif ((qpS t1)&&true) then
 bif (!(z49 t1)) then
 qkJ (7:Int)
 else
 bif ((qyk t1 (0:Int))&&true) then
 bif (z50 t1 (0:Int)) then
 qkJ (8:Int)
 else
 qkJ (0:Int)
 else none
 else none
 else none
def qAq (s4:Bool):Option AV:=some (dg s4)
def qCO (_n:Nat) (s0:List Int):Option AV :=
 bif ((qcL s0)&&true) then
 qAq (decide (0≤(qq s0)))
 else none
def qAr (s2:Bool):Option AV:=some (dg s2)
def qCP (_n:Nat) (t0:List Int):Option AV :=
 bif ((qyl t0)&&true) then
 qAr (!(z90 t0))
 else none
def quR (s2:Bool):Option AV:=some (dg s2)
def qCQ (_n:Nat) (s0:List UInt8):Option AV :=
 bif (decide ((0:Int) < (s0.length:Int))) then
 bif ((qpW s0 (64:Int))&&true) then
 quR (z36 s0 (64:Int))
 else none
 else
 quR false
def qAs (s2:List UInt8):Option AV:=some (db s2 (some (2,5)))
def qV (s7:List UInt8) (s9:Int):=([(s7.getD s9.toNat (0:UInt8))]:List UInt8)
def qeG (k0:List UInt8→Option AV) (next:List UInt8→List UInt8→Int→Int→Option AV) (_n:Nat) (out3:List UInt8) (s7:List UInt8) (s8:Int) (s9:Int):Option AV :=
 bif (decide (s9 < s8)) then bif ((decide (0≤s9))&&(decide (s9 < s7.length))) then bif ((s7.getD s9.toNat (0:UInt8))==(34:UInt8)) then bif ((s7.getD s9.toNat (0:UInt8))==(34:UInt8)) then bif (decide (out3.length+List.length ([(92:UInt8)]:List UInt8)≤room)) then bif (decide (List.length (out3++([(92:UInt8)]:List UInt8))+List.length (qV s7 s9)≤room)) then next ((out3++([(92:UInt8)]:List UInt8))++(qV s7 s9)) s7 s8 (IntKind.wrap .i64 (s9+1)) else none else none else bif (decide (out3.length+List.length (qV s7 s9)≤room)) then next (out3++(qV s7 s9)) s7 s8 (IntKind.wrap .i64 (s9+1)) else none else bif ((s7.getD s9.toNat (0:UInt8))==(92:UInt8)) then bif (decide (out3.length+List.length ([(92:UInt8)]:List UInt8)≤room)) then bif (decide (List.length (out3++([(92:UInt8)]:List UInt8))+List.length (qV s7 s9)≤room)) then next ((out3++([(92:UInt8)]:List UInt8))++(qV s7 s9)) s7 s8 (IntKind.wrap .i64 (s9+1)) else none else none else bif (decide (out3.length+List.length (qV s7 s9)≤room)) then next (out3++(qV s7 s9)) s7 s8 (IntKind.wrap .i64 (s9+1)) else none else none else k0 out3
def qmh (k0:List UInt8→Option AV):Nat→List UInt8→List UInt8→Int→Int→Option AV
 | 0=>fun _ _ _ _=>none
 | n+1=>qeG k0 (qmh k0 n) n
def qcZ (_n:Nat) (out3:List UInt8):Option AV :=
 bif (decide (out3.length+List.length ([(34:UInt8)]:List UInt8)≤room)) then
 qAs (out3++([(34:UInt8)]:List UInt8))
 else none
def qyJ (n:Nat) (s0:List UInt8):Option AV :=
 qmh (qcZ n) n ([(34:UInt8)]:List UInt8) s0 (s0.length:Int) (0:Int)
def quS (s2:List UInt8):Option AV:=some (db s2 (some (2,5)))
def qCR (_n:Nat) (s0:List UInt8):Option AV :=
 bif ((qyg s0)&&true) then
 bif (z93 s0) then
 bif ((qgB s0)&&true) then
 quS (z53 s0)
 else none
 else
 bif ((qyf s0)&&true) then
 quS (z94 s0)
 else none
 else none
def quT (s4:List UInt8) (s5:Bool):Option AV:=some (.tup [(da s4),(dg s5)])
def qCS (_n:Nat) (name0:List UInt8) (t1:List Int):Option AV :=
 bif ((qym t1)&&true) then
 bif (!(z51 t1)) then
 quT ([]:List UInt8) false
 else
 bif ((qpT t1)&&true) then
 bif ((qgB name0)&&true) then
 bif (decide (List.length (z53 name0)+List.length ([(61:UInt8)]:List UInt8)≤room)) then
 bif ((qyh ((z52 t1).1))&&true) then
 bif (decide (List.length ((z53 name0)++([(61:UInt8)]:List UInt8))+List.length (z54 ((z52 t1).1))≤room)) then
 quT (((z53 name0)++([(61:UInt8)]:List UInt8))++(z54 ((z52 t1).1))) (decide (((((z53 name0)++([(61:UInt8)]:List UInt8))++(z54 ((z52 t1).1))).length:Int)≤(74:Int)))
 else none
 else none
 else none
 else none
 else none
 else none
def qeH (s2:List UInt8):Option AV:=some (df s2 none)
def qgS:=([48,48,48,49,48,50,48,51,48,52,48,53,48,54,48,55,48,56,48,57,49,48,49,49,49,50,49,51,49,52,49,53,49,54,49,55,49,56,49,57,50,48,50,49,50,50,50,51,50,52,50,53,50,54,50,55,50,56,50,57,51,48,51,49,51,50,51,51,51,52,51,53,51,54,51,55,51,56,51,57,52,48,52,49,52,50,52,51,52,52,52,53,52,54,52,55,52,56,52,57,53,48,53,49,53,50,53,51,53,52,53,53,53,54,53,55,53,56,53,57,54,48,54,49,54,50,54,51,54,52,54,53,54,54,54,55,54,56,54,57,55,48,55,49,55,50,55,51,55,52,55,53,55,54,55,55,55,56,55,57,56,48,56,49,56,50,56,51,56,52,56,53,56,54,56,55,56,56,56,57,57,48,57,49,57,50,57,51,57,52,57,53,57,54,57,55,57,56,57,57]:List UInt8)
def qgT:=([48,49,50,51,52,53,54,55,56,57,97,98,99,100,101,102,103,104,105,106,107,108,109,110,111,112,113,114,115,116,117,118,119,120,121,122]:List UInt8)
def qdL (i0:Int):=(IntKind.wrap .i64 ((IntKind.wrap .i64 (i0*(2:Int)))+(2:Int)))
def qhL (_n:Nat) (i0:Int):Option AV :=
 bif (decide (i0 < (10:Int))) then bif (((decide (0≤i0))&&(decide (i0≤(IntKind.wrap .i64 (i0+1)))))&&(decide ((IntKind.wrap .i64 (i0+1))≤((qgT).length:Int)))) then qeH (List.drop i0.toNat (List.take (IntKind.wrap .i64 (i0+1)).toNat (qgT))) else none else bif (((decide (0≤(IntKind.wrap .i64 (i0*(2:Int)))))&&(decide ((IntKind.wrap .i64 (i0*(2:Int)))≤(qdL i0))))&&(decide ((qdL i0)≤((qgS).length:Int)))) then qeH (List.drop (IntKind.wrap .i64 (i0*(2:Int))).toNat (List.take (qdL i0).toNat (qgS))) else none
def quU (s6:List UInt8):Option AV:=some (db s6 (some (6,5)))
def quV (_n:Nat) (dst0:List UInt8) (i1:Int) (base2:Int):Option AV :=
 bif (base2==(10:Int)) then
 bif (decide (i1 < (100:Int))) then
 bif ((qoO (IntKind.wrap .i64 i1))&&true) then
 bif (decide (dst0.length+List.length (z136 (IntKind.wrap .i64 i1))≤room)) then
 quU (dst0++(z136 (IntKind.wrap .i64 i1)))
 else none
 else none
 else
 none
 else
 none
def qmi (s6:List UInt8):Option AV:=some (db s6 (some (6,5)))
def quW (_n:Nat) (dst0:List UInt8) (i1:Int) (base2:Int):Option AV :=
 bif (decide (i1 < (0:Int))) then
 bif (decide (dst0.length+List.length ([(45:UInt8)]:List UInt8)≤room)) then
 bif (qhF (dst0++([(45:UInt8)]:List UInt8)) (IntKind.wrap .u64 (0 - (IntKind.wrap .u64 i1))) base2) then
 qmi (z133 (dst0++([(45:UInt8)]:List UInt8)) (IntKind.wrap .u64 (0 - (IntKind.wrap .u64 i1))) base2)
 else none
 else none
 else
 bif (qhF dst0 (IntKind.wrap .u64 i1) base2) then
 qmi (z133 dst0 (IntKind.wrap .u64 i1) base2)
 else none
def qAt (s6:List UInt8):Option AV:=some (db s6 (some (6,5)))
def qCT (_n:Nat) (dst0:List UInt8) (i1:Int) (base2:Int):Option AV :=
 bif (qkD dst0 i1 base2) then
 qAt (z123 dst0 i1 base2)
 else none
def qkK (s2:List UInt8):Option AV:=some (db s2 (some (2,5)))
def qcy (p0:(List UInt8)×(Int×(Bool×((List UInt8)×Unit)))):=((z53 p0.1)++([(42:UInt8)]:List UInt8))
def qCU (_n:Nat) (p0:(List UInt8)×(Int×(Bool×((List UInt8)×Unit)))):Option AV :=
 bif ((qgB p0.1)&&true) then bif (decide (0≤p0.2.1)) then bif (decide (List.length (z53 p0.1)+List.length ([(42:UInt8)]:List UInt8)≤room)) then bif (qtN (qcy p0) p0.2.1 (10:Int)) then bif p0.2.2.1 then bif (decide (List.length (z95 (qcy p0) p0.2.1 (10:Int))+List.length ([(42:UInt8)]:List UInt8)≤room)) then qkK ((z95 (qcy p0) p0.2.1 (10:Int))++([(42:UInt8)]:List UInt8)) else none else qkK (z95 (qcy p0) p0.2.1 (10:Int)) else none else none else bif p0.2.2.1 then bif (decide (List.length (z53 p0.1)+List.length ([(42:UInt8)]:List UInt8)≤room)) then qkK (qcy p0) else none else qkK (z53 p0.1) else none
def qgU (s2:List (List UInt8)):Option AV:=some (.dat (.sl .str) s2 (some (2,9)))
def qCV (_n:Nat) (charset0:Int):Option AV :=
 bif (charset0==(1:Int)) then
 qgU ([([117,115,45,97,115,99,105,105]:List UInt8),([97,115,99,105,105]:List UInt8),([97,110,115,105,95,120,51,46,52,45,49,57,54,56]:List UInt8),([105,115,111,54,52,54,45,117,115]:List UInt8)]:List (List UInt8))
 else
 bif (charset0==(2:Int)) then
 qgU ([([105,115,111,45,56,56,53,57,45,49]:List UInt8),([105,115,111,95,56,56,53,57,45,49]:List UInt8),([108,97,116,105,110,49]:List UInt8),([108,49]:List UInt8)]:List (List UInt8))
 else
 bif (charset0==(3:Int)) then
 qgU ([([105,115,111,45,56,56,53,57,45,49,53]:List UInt8),([105,115,111,95,56,56,53,57,45,49,53]:List UInt8),([108,97,116,105,110,45,57]:List UInt8)]:List (List UInt8))
 else
 bif (charset0==(4:Int)) then
 qgU ([([119,105,110,100,111,119,115,45,49,50,53,50]:List UInt8),([99,112,49,50,53,50]:List UInt8)]:List (List UInt8))
 else
 bif (charset0==(5:Int)) then
 qgU ([([117,116,102,45,56]:List UInt8),([117,116,102,56]:List UInt8)]:List (List UInt8))
 else
 qgU ([]:List (List UInt8))
def quX (s2:List UInt8):Option AV:=some (df s2 none)
def qCW (_n:Nat) (charset0:Int):Option AV :=
 bif (((z96 charset0).length:Int)==(0:Int)) then
 quX ([]:List UInt8)
 else
 bif ((decide (0≤(0:Int)))&&(decide ((0:Int) < (z96 charset0).length))) then
 quX ((z96 charset0).getD (0:Int).toNat ([]:List UInt8))
 else none
def quY (s6:List UInt8):Option AV:=some (db s6 (some (6,5)))
def qdM (name0:List UInt8) (n1:Int):=((z55 (name0,(n1,(true,(([]:List UInt8),())))))++([(61:UInt8)]:List UInt8))
def qCX (_n:Nat) (name0:List UInt8) (n1:Int) (charset2:Int):Option AV :=
 bif ((qtP (name0,(n1,(true,(([]:List UInt8),())))))&&true) then bif (decide (List.length (z55 (name0,(n1,(true,(([]:List UInt8),())))))+List.length ([(61:UInt8)]:List UInt8)≤room)) then bif (decide ((0:Int) < n1)) then quY (qdM name0 n1) else bif (decide (List.length (qdM name0 n1)+List.length (z56 charset2)≤room)) then bif (decide (List.length ((qdM name0 n1)++(z56 charset2))+List.length ([39,39]:List UInt8)≤room)) then quY (((qdM name0 n1)++(z56 charset2))++([39,39]:List UInt8)) else none else none else none else none
def qpd (s30:Bool) (s31:List UInt8) (s32:List (List UInt8)) (s33:List UInt8) (s34:Int):Option AV:=some (.tup [(.tup []),.bad,(.pbox (.leaf .bool) s30 none),(.pbox (.osl 5 .byte) s31 none),(.pbox (.psl 22 (.osl 5 .byte)) s32 none),(.pbox (.leaf (.sl .byte)) s33 none),(.pbox (.leaf (.int .i64)) s34 none)])
def qCY (_n:Nat) (u0:List UInt8) (x1:Bool) (x2:List UInt8) (x3:List (List UInt8)) (x4:List UInt8) (x5:Int):Option AV :=
 bif (!x1) then
 bif (decide ((74:Int) < (IntKind.wrap .i64 ((x2.length:Int)+(u0.length:Int))))) then
 bif (decide (x3.length+List.length ([x2]:List (List UInt8))≤room)) then
 bif ((qfx x4 ((x3++([x2]:List (List UInt8))).length:Int) x5)&&true) then
 bif (decide (List.length (z29 x4 ((x3++([x2]:List (List UInt8))).length:Int) x5)+u0.length≤room)) then
 qpd false ((z29 x4 ((x3++([x2]:List (List UInt8))).length:Int) x5)++u0) (x3++([x2]:List (List UInt8))) x4 x5
 else none
 else none
 else none
 else
 bif (decide (x2.length+u0.length≤room)) then
 qpd false (x2++u0) x3 x4 x5
 else none
 else
 bif (decide (x2.length+u0.length≤room)) then
 qpd false (x2++u0) x3 x4 x5
 else none
def qAu (s6:List (List UInt8)):Option AV:=some (.dat (.sl (.sl .byte)) s6 none)
def qam (s17:List (List UInt8)) (s19:Int):=(s17.getD s19.toNat ([]:List UInt8))
def qeI (k0:List (List UInt8)→List UInt8→Option AV) (next:List UInt8→Int→List (List UInt8)→List UInt8→Bool→List (List UInt8)→Int→Int→Option AV) (_n:Nat) (name3:List UInt8) (charset4:Int) (out7:List (List UInt8)) (now8:List UInt8) (empty9:Bool) (s17:List (List UInt8)) (s18:Int) (s19:Int):Option AV :=
 bif (decide (s19 < s18)) then bif ((decide (0≤s19))&&(decide (s19 < s17.length))) then bif (qqN (qam s17 s19) empty9 now8 out7 name3 charset4) then next ((z58 (qam s17 s19) empty9 now8 out7 name3 charset4).2.2.2.1) ((z58 (qam s17 s19) empty9 now8 out7 name3 charset4).2.2.2.2) ((z58 (qam s17 s19) empty9 now8 out7 name3 charset4).2.2.1) ((z58 (qam s17 s19) empty9 now8 out7 name3 charset4).2.1) ((z58 (qam s17 s19) empty9 now8 out7 name3 charset4).1) s17 s18 (IntKind.wrap .i64 (s19+1)) else none else none else k0 out7 now8
def qmj (k0:List (List UInt8)→List UInt8→Option AV):Nat→List UInt8→Int→List (List UInt8)→List UInt8→Bool→List (List UInt8)→Int→Int→Option AV
 | 0=>fun _ _ _ _ _ _ _ _=>none
 | n+1=>qeI k0 (qmj k0 n) n
def qeJ (_n:Nat) (out7:List (List UInt8)) (now8:List UInt8):Option AV :=
 bif (decide (out7.length+List.length ([now8]:List (List UInt8))≤room)) then
 qAu (out7++([now8]:List (List UInt8)))
 else none
def qyK (n:Nat) (name0:List UInt8) (charset1:Int) (l2:List (List UInt8)):Option AV :=
 bif ((qfx name0 (0:Int) charset1)&&true) then
 qmj (qeJ n) n name0 charset1 ([]:List (List UInt8)) (z29 name0 (0:Int) charset1) true l2 (l2.length:Int) (0:Int)
 else none
def qhM (s4:List (List UInt8)) (s5:Int):Option AV:=some (.tup [(.dat (.sl (.sl .byte)) s4 none),(dc s5)])
def qfP (t1:List Int):=(z30 (z23 ((z22 t1).1) t1) ([]:List UInt8))
def qCZ (_n:Nat) (name0:List UInt8) (t1:List Int):Option AV :=
 bif ((qiQ name0 t1)&&true) then bif ((z27 name0 t1) != (0:Int)) then qhM ([]:List (List UInt8)) (z27 name0 t1) else bif ((qkE name0 t1)&&true) then bif ((z28 name0 t1).2) then qhM ([((z28 name0 t1).1)]:List (List UInt8)) (0:Int) else bif ((qpO t1)&&true) then bif (((z22 t1).2) != (0:Int)) then qhM ([]:List (List UInt8)) ((z22 t1).2) else bif ((qqM ((z22 t1).1) t1)&&true) then bif ((qfx name0 (-1:Int) ((z22 t1).1))&&true) then bif ((qpQ (z23 ((z22 t1).1) t1) ([]:List UInt8))&&true) then bif (decide (List.length (z29 name0 (-1:Int) ((z22 t1).1))+List.length (qfP t1)≤room)) then bif (decide ((((z29 name0 (-1:Int) ((z22 t1).1))++(qfP t1)).length:Int)≤(74:Int))) then qhM ([((z29 name0 (-1:Int) ((z22 t1).1))++(qfP t1))]:List (List UInt8)) (0:Int) else bif ((qqO name0 ((z22 t1).1) (z23 ((z22 t1).1) t1))&&true) then qhM (z31 name0 ((z22 t1).1) (z23 ((z22 t1).1) t1)) (0:Int) else none else none else none else none else none else none else none else none
def qHe (s4:List UInt8) (s5:Int):Option AV:=some (.tup [(da s4),(dc s5)])
def qhN (k0:Int→List UInt8→Option AV) (next:Int→List UInt8→List (List UInt8)→Int→Int→Option AV) (_n:Nat) (e7:Int) (out8:List UInt8) (s17:List (List UInt8)) (s18:Int) (s19:Int):Option AV :=
 bif (decide (s19 < s18)) then
 bif ((decide (0≤s19))&&(decide (s19 < s17.length))) then
 bif (decide (out8.length+List.length ([59,13,10,32]:List UInt8)≤room)) then
 bif (decide (List.length (out8++([59,13,10,32]:List UInt8))+List.length (s17.getD s19.toNat ([]:List UInt8))≤room)) then
 next e7 ((out8++([59,13,10,32]:List UInt8))++(s17.getD s19.toNat ([]:List UInt8))) s17 s18 (IntKind.wrap .i64 (s19+1))
 else none
 else none
 else none
 else
 k0 e7 out8
def z7_l4 (k0:Int→List UInt8→Option AV):Nat→Int→List UInt8→List (List UInt8)→Int→Int→Option AV
 | 0=>fun _ _ _ _ _=>none
 | n+1=>qhN k0 (z7_l4 k0 n) n
def qhO (_n:Nat) (e7:Int) (out8:List UInt8):Option AV :=
 qHe out8 e7
def z7_sh (n:Nat) (name0:List UInt8) (t1:List Int):Option AV :=
 bif ((qhu name0 t1)&&true) then
 z7_l4 (qhO n) n ((z13 name0 t1).2) ([]:List UInt8) ((z13 name0 t1).1) (((z13 name0 t1).1).length:Int) (0:Int)
 else none
def qmk (s0:Bool):Option AV:=some (dg s0)
def qjb:=(z13 ([(97:UInt8)]:List UInt8) ([(233:Int)]:List Int))
def z6_sh (_n:Nat):Option AV :=
 bif ((qhu ([(97:UInt8)]:List UInt8) ([(233:Int)]:List Int))&&true) then bif ((z7_ok ([(97:UInt8)]:List UInt8) ([(120:Int),(32:Int)]:List Int))&&true) then bif ((qhu ([(97:UInt8),(32:UInt8),(98:UInt8)]:List UInt8) ([]:List Int))&&true) then bif ((((qjb).1).length:Int)==(1:Int)) then bif ((decide (0≤(0:Int)))&&(decide ((0:Int) < ((qjb).1).length))) then bif ((((qjb).1).getD (0:Int).toNat ([]:List UInt8))==([97,42,61,105,115,111,45,56,56,53,57,45,49,39,39,37,69,57]:List UInt8)) then bif (((qjb).2)==(0:Int)) then bif (((z7 ([(97:UInt8)]:List UInt8) ([(120:Int),(32:Int)]:List Int)).1)==([59,13,10,32,97,61,34,120,32,34]:List UInt8)) then bif (((z7 ([(97:UInt8)]:List UInt8) ([(120:Int),(32:Int)]:List Int)).2)==(0:Int)) then qmk (((z13 ([(97:UInt8),(32:UInt8),(98:UInt8)]:List UInt8) ([]:List Int)).2)==(13:Int)) else qmk false else qmk false else qmk false else qmk false else none else qmk false else none else none else none
def quZ (s2:Int):Option AV:=some (di s2 none)
def qAv (_n:Nat) (x0:UInt8):Option AV :=
 quZ (IntKind.wrap .i32 ((UInt8.toNat x0:Nat):Int))
def qpe (s2:UInt8) (s3:Bool):Option AV:=some (.tup [(dm s2),(dg s3)])
def qjc (ret:UInt8→Bool→Option AV) (k0:Option AV) (next:Int→Int→Option AV) (_n:Nat) (c0:Int) (n4:Int):Option AV :=
 bif (decide (n4 < (256:Int))) then
 bif ((z117 (UInt8.ofNat (IntKind.wrap .u8 n4).toNat))==c0) then
 bif (c0 != (65533:Int)) then
 ret (UInt8.ofNat (IntKind.wrap .u8 n4).toNat) true
 else
 next c0 (IntKind.wrap .i64 (n4+1))
 else
 next c0 (IntKind.wrap .i64 (n4+1))
 else
 k0
def qkL (ret:UInt8→Bool→Option AV) (k0:Option AV):Nat→Int→Int→Option AV
 | 0=>fun _ _=>none
 | n+1=>qjc ret k0 (qkL ret k0 n) n
def qjd (_n:Nat):Option AV :=
 qpe (0:UInt8) false
def qyL (n:Nat) (c0:Int):Option AV :=
 qkL qpe (qjd n) n c0 (0:Int)
def qbq (s2:Int):Option AV:=some (di s2 none)
def qva (_n:Nat) (x0:UInt8):Option AV :=
 bif (x0==(164:UInt8)) then
 qbq (8364:Int)
 else
 bif (x0==(166:UInt8)) then
 qbq (352:Int)
 else
 bif (x0==(168:UInt8)) then
 qbq (353:Int)
 else
 bif (x0==(180:UInt8)) then
 qbq (381:Int)
 else
 bif (x0==(184:UInt8)) then
 qbq (382:Int)
 else
 bif (x0==(188:UInt8)) then
 qbq (338:Int)
 else
 bif (x0==(189:UInt8)) then
 qbq (339:Int)
 else
 bif (x0==(190:UInt8)) then
 qbq (376:Int)
 else
 qbq (IntKind.wrap .i32 ((UInt8.toNat x0:Nat):Int))
def qkM (s2:UInt8) (s3:Bool):Option AV:=some (.tup [(dm s2),(dg s3)])
def qje (ret:UInt8→Bool→Option AV) (k0:Option AV) (next:Int→Int→Option AV) (_n:Nat) (c0:Int) (n4:Int):Option AV :=
 bif (decide (n4 < (256:Int))) then
 bif ((z118 (UInt8.ofNat (IntKind.wrap .u8 n4).toNat))==c0) then
 bif (c0 != (65533:Int)) then
 ret (UInt8.ofNat (IntKind.wrap .u8 n4).toNat) true
 else
 next c0 (IntKind.wrap .i64 (n4+1))
 else
 next c0 (IntKind.wrap .i64 (n4+1))
 else
 k0
def qml (ret:UInt8→Bool→Option AV) (k0:Option AV):Nat→Int→Int→Option AV
 | 0=>fun _ _=>none
 | n+1=>qje ret k0 (qml ret k0 n) n
def qgV (_n:Nat):Option AV :=
 qkM (0:UInt8) false
def qyM (n:Nat) (c0:Int):Option AV :=
 qml qkM (qgV n) n c0 (0:Int)
def qjf (s2:Int):Option AV:=some (di s2 none)
def qgW:=([(8364:Int),(65533:Int),(8218:Int),(402:Int),(8222:Int),(8230:Int),(8224:Int),(8225:Int),(710:Int),(8240:Int),(352:Int),(8249:Int),(338:Int),(65533:Int),(381:Int),(65533:Int),(65533:Int),(8216:Int),(8217:Int),(8220:Int),(8221:Int),(8226:Int),(8211:Int),(8212:Int),(732:Int),(8482:Int),(353:Int),(8250:Int),(339:Int),(65533:Int),(382:Int),(376:Int)]:List Int)
def qvb (_n:Nat) (x0:UInt8):Option AV :=
 bif (decide (x0 < (128:UInt8))) then qjf (IntKind.wrap .i32 ((UInt8.toNat x0:Nat):Int)) else bif (decide ((159:UInt8) < x0)) then qjf (IntKind.wrap .i32 ((UInt8.toNat x0:Nat):Int)) else bif ((decide (0≤((UInt8.toNat (x0 - (128:UInt8)):Nat):Int)))&&(decide (((UInt8.toNat (x0 - (128:UInt8)):Nat):Int) < (qgW).length))) then qjf ((qgW).getD ((UInt8.toNat (x0 - (128:UInt8)):Nat):Int).toNat 0) else none
def qkN (s2:UInt8) (s3:Bool):Option AV:=some (.tup [(dm s2),(dg s3)])
def qjg (ret:UInt8→Bool→Option AV) (k0:Option AV) (next:Int→Int→Option AV) (_n:Nat) (c0:Int) (n4:Int):Option AV :=
 bif (decide (n4 < (256:Int))) then
 bif ((z119 (UInt8.ofNat (IntKind.wrap .u8 n4).toNat))==c0) then
 bif (c0 != (65533:Int)) then
 ret (UInt8.ofNat (IntKind.wrap .u8 n4).toNat) true
 else
 next c0 (IntKind.wrap .i64 (n4+1))
 else
 next c0 (IntKind.wrap .i64 (n4+1))
 else
 k0
def qmm (ret:UInt8→Bool→Option AV) (k0:Option AV):Nat→Int→Int→Option AV
 | 0=>fun _ _=>none
 | n+1=>qjg ret k0 (qmm ret k0 n) n
def qgX (_n:Nat):Option AV :=
 qkN (0:UInt8) false
def qyN (n:Nat) (c0:Int):Option AV :=
 qmm qkN (qgX n) n c0 (0:Int)
def qmn (s2:Bool):Option AV:=some (dg s2)
def qvc (_n:Nat) (c0:Int):Option AV :=
 bif (decide ((55296:Int)≤c0)) then
 qmn (decide (c0≤(57343:Int)))
 else
 qmn false
def qpf (s2:Bool):Option AV:=some (dg s2)
def qDa (_n:Nat) (c0:Int):Option AV :=
 bif (decide (0≤c0)) then
 bif (decide (c0≤(1114111:Int))) then
 qpf (!(z124 c0))
 else
 qpf false
 else
 qpf false
def qfm (s4:Bool):Option AV:=some (dg s4)
def qDb (_n:Nat) (charset0:Int) (c1:Int):Option AV :=
 bif (charset0==(1:Int)) then
 bif (decide (0≤c1)) then
 qfm (decide (c1 < (128:Int)))
 else
 qfm false
 else
 bif (charset0==(2:Int)) then
 qfm ((z83 c1).2)
 else
 bif (charset0==(3:Int)) then
 qfm ((z84 c1).2)
 else
 bif (charset0==(4:Int)) then
 qfm ((z85 c1).2)
 else
 bif (charset0==(5:Int)) then
 qfm (z97 c1)
 else
 qfm false
def qkO (s4:Int):Option AV:=some (dc s4)
def qeK (ret:Int→Option AV) (k0:Option AV) (next:Int→List Int→Int→Option AV) (_n:Nat) (charset0:Int) (t1:List Int) (i5:Int):Option AV :=
 bif (decide (i5 < (t1.length:Int))) then
 bif ((decide (0≤i5))&&(decide (i5 < t1.length))) then
 bif (!(z82 charset0 (t1.getD i5.toNat 0))) then
 ret i5
 else
 next charset0 t1 (IntKind.wrap .i64 (i5+1))
 else none
 else
 k0
def qmo (ret:Int→Option AV) (k0:Option AV):Nat→Int→List Int→Int→Option AV
 | 0=>fun _ _ _=>none
 | n+1=>qeK ret k0 (qmo ret k0 n) n
def qgY (_n:Nat):Option AV :=
 qkO (-1:Int)
def qyO (n:Nat) (charset0:Int) (t1:List Int):Option AV :=
 qmo qkO (qgY n) n charset0 t1 (0:Int)
def qpg (s4:Bool):Option AV:=some (dg s4)
def qDc (_n:Nat) (charset0:Int) (t1:List Int):Option AV :=
 bif (decide ((1:Int)≤charset0)) then
 bif (decide (charset0≤(5:Int))) then
 bif ((qwm charset0 t1)&&true) then
 qpg (decide ((z81 charset0 t1) < (0:Int)))
 else none
 else
 qpg false
 else
 qpg false
def qdN (s2:Int) (s3:Int):Option AV:=some (.tup [(dc s2),(dc s3)])
def qeL (ret:Int→Int→Option AV) (k0:Option AV) (next:List Int→Int→Option AV) (_n:Nat) (t0:List Int) (n4:Int):Option AV :=
 bif (decide (n4≤(5:Int))) then
 bif ((qwn n4 t0)&&true) then
 bif (z46 n4 t0) then
 ret n4 (0:Int)
 else
 next t0 (IntKind.wrap .i64 (n4+1))
 else none
 else
 k0
def qjh (ret:Int→Int→Option AV) (k0:Option AV):Nat→List Int→Int→Option AV
 | 0=>fun _ _=>none
 | n+1=>qeL ret k0 (qjh ret k0 n) n
def qda (_n:Nat):Option AV :=
 qdN (0:Int) (7:Int)
def qyP (n:Nat) (t0:List Int):Option AV :=
 qjh qdN (qda n) n t0 (1:Int)
def qhP (s2:List UInt8):Option AV:=some (db s2 (some (2,5)))
def qfQ (c0:Int):=(UInt8.ofNat (IntKind.wrap .u8 (IntKind.wrap .i64 ((128:Int)+(Int.tmod (IntKind.wrap .i64 c0) (64:Int))))).toNat)
def qji (c0:Int):=(UInt8.ofNat (IntKind.wrap .u8 (IntKind.wrap .i64 ((128:Int)+(Int.tmod (IntKind.wrap .i64 (Int.tdiv (IntKind.wrap .i64 c0) (64:Int))) (64:Int))))).toNat)
def qDd (_n:Nat) (c0:Int):Option AV :=
 bif (!(z97 c0)) then qhP ([]:List UInt8) else bif (decide ((IntKind.wrap .i64 c0) < (128:Int))) then qhP ([(UInt8.ofNat (IntKind.wrap .u8 (IntKind.wrap .i64 c0)).toNat)]:List UInt8) else bif (decide ((IntKind.wrap .i64 c0) < (2048:Int))) then qhP ([(UInt8.ofNat (IntKind.wrap .u8 (IntKind.wrap .i64 ((192:Int)+(IntKind.wrap .i64 (Int.tdiv (IntKind.wrap .i64 c0) (64:Int)))))).toNat),(qfQ c0)]:List UInt8) else bif (decide ((IntKind.wrap .i64 c0) < (65536:Int))) then qhP ([(UInt8.ofNat (IntKind.wrap .u8 (IntKind.wrap .i64 ((224:Int)+(IntKind.wrap .i64 (Int.tdiv (IntKind.wrap .i64 c0) (4096:Int)))))).toNat),(qji c0),(qfQ c0)]:List UInt8) else qhP ([(UInt8.ofNat (IntKind.wrap .u8 (IntKind.wrap .i64 ((240:Int)+(IntKind.wrap .i64 (Int.tdiv (IntKind.wrap .i64 c0) (262144:Int)))))).toNat),(UInt8.ofNat (IntKind.wrap .u8 (IntKind.wrap .i64 ((128:Int)+(Int.tmod (IntKind.wrap .i64 (Int.tdiv (IntKind.wrap .i64 c0) (4096:Int))) (64:Int))))).toNat),(qji c0),(qfQ c0)]:List UInt8)
def qgZ (s4:List UInt8):Option AV:=some (db s4 (some (4,5)))
def qDe (_n:Nat) (charset0:Int) (c1:Int):Option AV :=
 bif (!(z82 charset0 c1)) then
 qgZ ([]:List UInt8)
 else
 bif (charset0==(1:Int)) then
 qgZ ([(UInt8.ofNat (IntKind.wrap .u8 c1).toNat)]:List UInt8)
 else
 bif (charset0==(2:Int)) then
 qgZ ([((z83 c1).1)]:List UInt8)
 else
 bif (charset0==(3:Int)) then
 qgZ ([((z84 c1).1)]:List UInt8)
 else
 bif (charset0==(4:Int)) then
 qgZ ([((z85 c1).1)]:List UInt8)
 else
 qgZ (z86 c1)
def qfn (s4:List UInt8) (s5:Int):Option AV:=some (.tup [(da s4),(dc s5)])
def qeM (ret:List UInt8→Int→Option AV) (k0:List UInt8→Option AV) (next:Int→List Int→List UInt8→Int→Option AV) (_n:Nat) (charset0:Int) (t1:List Int) (out6:List UInt8) (i7:Int):Option AV :=
 bif (decide (i7 < (t1.length:Int))) then
 bif ((decide (0≤i7))&&(decide (i7 < t1.length))) then
 bif (((z47 charset0 (t1.getD i7.toNat 0)).length:Int)==(0:Int)) then
 ret ([]:List UInt8) (9:Int)
 else
 bif (decide (out6.length+List.length (z47 charset0 (t1.getD i7.toNat 0))≤room)) then
 next charset0 t1 (out6++(z47 charset0 (t1.getD i7.toNat 0))) (IntKind.wrap .i64 (i7+1))
 else none
 else none
 else
 k0 out6
def qmp (ret:List UInt8→Int→Option AV) (k0:List UInt8→Option AV):Nat→Int→List Int→List UInt8→Int→Option AV
 | 0=>fun _ _ _ _=>none
 | n+1=>qeM ret k0 (qmp ret k0 n) n
def qeN (_n:Nat) (out6:List UInt8):Option AV :=
 qfn out6 (0:Int)
def qyQ (n:Nat) (charset0:Int) (t1:List Int):Option AV :=
 bif (decide (charset0 < (1:Int))) then
 qfn ([]:List UInt8) (10:Int)
 else
 bif (decide ((5:Int) < charset0)) then
 qfn ([]:List UInt8) (10:Int)
 else
 qmp qfn (qeN n) n charset0 t1 ([]:List UInt8) (0:Int)
def qeO (s4:Bool):Option AV:=some (dg s4)
def qcz (ret:Bool→Option AV) (k0:Option AV) (next:List UInt8→UInt8→Int→Option AV) (_n:Nat) (s0:List UInt8) (c1:UInt8) (i5:Int):Option AV :=
 bif (decide (i5 < (s0.length:Int))) then
 bif ((decide (0≤i5))&&(decide (i5 < s0.length))) then
 bif ((s0.getD i5.toNat (0:UInt8))==c1) then
 ret true
 else
 next s0 c1 (IntKind.wrap .i64 (i5+1))
 else none
 else
 k0
def qdO (ret:Bool→Option AV) (k0:Option AV):Nat→List UInt8→UInt8→Int→Option AV
 | 0=>fun _ _ _=>none
 | n+1=>qcz ret k0 (qdO ret k0 n) n
def qdP (_n:Nat):Option AV :=
 qeO false
def qkP (n:Nat) (s0:List UInt8) (c1:UInt8):Option AV :=
 qdO qeO (qdP n) n s0 c1 (0:Int)
def qAw (s4:Bool):Option AV:=some (dg s4)
def qHf (_n:Nat) (c0:UInt8) (kinds1:Int):Option AV :=
 qAw ((bits .and .i64 (z101 c0) kinds1) != (0:Int))
def qmq (s2:UInt8):Option AV:=some (dm s2)
def qdQ (n0:Int):=(Int.tmod (IntKind.wrap .i64 ((Int.tmod n0 (16:Int))+(16:Int))) (16:Int))
def qvd (_n:Nat) (n0:Int):Option AV :=
 bif (decide ((qdQ n0) < (10:Int))) then qmq (UInt8.ofNat (IntKind.wrap .u8 (IntKind.wrap .i64 ((48:Int)+(qdQ n0)))).toNat) else qmq (UInt8.ofNat (IntKind.wrap .u8 (IntKind.wrap .i64 ((IntKind.wrap .i64 ((65:Int)+(qdQ n0))) - (10:Int)))).toNat)
def qAx (s6:List UInt8):Option AV:=some (db s6 (some (6,5)))
def qdR (c2:UInt8):=(IntKind.wrap .i64 ((UInt8.toNat c2:Nat):Int))
def qjj (sign1:UInt8) (c2:UInt8):=([sign1,(z120 (IntKind.wrap .i64 (Int.tdiv (qdR c2) (16:Int)))),(z120 (Int.tmod (qdR c2) (16:Int)))]:List UInt8)
def qDf (_n:Nat) (b0:List UInt8) (sign1:UInt8) (c2:UInt8):Option AV :=
 bif (decide (List.length ([]:List UInt8)+b0.length≤room)) then bif ((qcK (IntKind.wrap .i64 (Int.tdiv (qdR c2) (16:Int))))&&true) then bif ((qcK (Int.tmod (qdR c2) (16:Int)))&&true) then bif (decide (List.length (([]:List UInt8)++b0)+List.length (qjj sign1 c2)≤room)) then qAx ((([]:List UInt8)++b0)++(qjj sign1 c2)) else none else none else none else none
def qve (s2:List UInt8):Option AV:=some (db s2 (some (2,5)))
def qDg (_n:Nat) (c0:UInt8):Option AV :=
 bif (z65 c0 (256:Int)) then
 qve ([c0]:List UInt8)
 else
 bif ((qBv ([]:List UInt8) (37:UInt8) c0)&&true) then
 qve (z87 ([]:List UInt8) (37:UInt8) c0)
 else none
def qAy (s2:List UInt8):Option AV:=some (db s2 (some (2,5)))
def qeP (k0:List UInt8→Option AV) (next:List UInt8→List UInt8→Int→Option AV) (_n:Nat) (s0:List UInt8) (out3:List UInt8) (i4:Int):Option AV :=
 bif (decide (i4 < (s0.length:Int))) then
 bif ((decide (0≤i4))&&(decide (i4 < s0.length))) then
 bif (decide (out3.length+List.length (z48 (s0.getD i4.toNat (0:UInt8)))≤room)) then
 next s0 (out3++(z48 (s0.getD i4.toNat (0:UInt8)))) (IntKind.wrap .i64 (i4+1))
 else none
 else none
 else
 k0 out3
def qmr (k0:List UInt8→Option AV):Nat→List UInt8→List UInt8→Int→Option AV
 | 0=>fun _ _ _=>none
 | n+1=>qeP k0 (qmr k0 n) n
def qeQ (_n:Nat) (out3:List UInt8):Option AV :=
 qAy out3
def qyR (n:Nat) (s0:List UInt8):Option AV :=
 qmr (qeQ n) n s0 ([]:List UInt8) (0:Int)
def qvf (s2:List (List UInt8)) (s3:Int):Option AV:=some (.tup [(.dat (.sl (.sl .byte)) s2 none),(dc s3)])
def qaP (t0:List Int) (i7:Int):=(List.drop i7.toNat (List.take (IntKind.wrap .i64 (i7+1)).toNat t0))
def qeR (k0:List (List UInt8)→Option AV) (next:List Int→Int→List (List UInt8)→Int→Option AV) (_n:Nat) (t0:List Int) (n4:Int) (out6:List (List UInt8)) (i7:Int):Option AV :=
 bif (decide (i7 < (t0.length:Int))) then bif (((decide (0≤i7))&&(decide (i7≤(IntKind.wrap .i64 (i7+1)))))&&(decide ((IntKind.wrap .i64 (i7+1))≤(t0.length:Int)))) then bif ((qwz n4 (qaP t0 i7))&&true) then bif ((qye ((z25 n4 (qaP t0 i7)).1))&&true) then bif (decide (out6.length+List.length ([(z26 ((z25 n4 (qaP t0 i7)).1))]:List (List UInt8))≤room)) then next t0 n4 (out6++([(z26 ((z25 n4 (qaP t0 i7)).1))]:List (List UInt8))) (IntKind.wrap .i64 (i7+1)) else none else none else none else none else k0 out6
def qms (k0:List (List UInt8)→Option AV):Nat→List Int→Int→List (List UInt8)→Int→Option AV
 | 0=>fun _ _ _ _=>none
 | n+1=>qeR k0 (qms k0 n) n
def qeS (_n:Nat) (out6:List (List UInt8)):Option AV :=
 qvf out6 (0:Int)
def qyS (n:Nat) (t0:List Int):Option AV :=
 bif ((qpP t0)&&true) then
 bif (((z24 t0).2) != (0:Int)) then
 qvf ([]:List (List UInt8)) ((z24 t0).2)
 else
 qms (qeS n) n t0 ((z24 t0).1) ([]:List (List UInt8)) (0:Int)
 else none
def qAz (s4:Int):Option AV:=some (dc s4)
def qeT (k0:Int→Option AV) (next:List UInt8→Int→Int→Int→Option AV) (_n:Nat) (s0:List UInt8) (kinds1:Int) (n5:Int) (i6:Int):Option AV :=
 bif (decide (i6 < (s0.length:Int))) then
 bif ((decide (0≤i6))&&(decide (i6 < s0.length))) then
 bif (z65 (s0.getD i6.toNat (0:UInt8)) kinds1) then
 next s0 kinds1 (IntKind.wrap .i64 (n5+1)) (IntKind.wrap .i64 (i6+1))
 else
 next s0 kinds1 n5 (IntKind.wrap .i64 (i6+1))
 else none
 else
 k0 n5
def qjk (k0:Int→Option AV):Nat→List UInt8→Int→Int→Int→Option AV
 | 0=>fun _ _ _ _=>none
 | n+1=>qeT k0 (qjk k0 n) n
def qha (_n:Nat) (n5:Int):Option AV :=
 qAz n5
def qyT (n:Nat) (s0:List UInt8) (kinds1:Int):Option AV :=
 qjk (qha n) n s0 kinds1 (0:Int) (0:Int)
def qph (s2:Bool):Option AV:=some (dg s2)
def qDh (_n:Nat) (name0:List UInt8):Option AV :=
 bif (decide ((1:Int)≤(name0.length:Int))) then
 bif (decide ((name0.length:Int)≤(30:Int))) then
 bif ((qpX name0 (256:Int))&&true) then
 qph ((z37 name0 (256:Int))==(name0.length:Int))
 else none
 else
 qph false
 else
 qph false
def qhb (s2:Int):Option AV:=some (dc s2)
def qeU (ret:Int→Option AV) (k0:Option AV) (next:List Int→Int→Option AV) (_n:Nat) (t0:List Int) (i3:Int):Option AV :=
 bif (decide (i3 < (t0.length:Int))) then
 bif ((decide (0≤i3))&&(decide (i3 < t0.length))) then
 bif (!(z97 (t0.getD i3.toNat 0))) then
 ret i3
 else
 next t0 (IntKind.wrap .i64 (i3+1))
 else none
 else
 k0
def qmt (ret:Int→Option AV) (k0:Option AV):Nat→List Int→Int→Option AV
 | 0=>fun _ _=>none
 | n+1=>qeU ret k0 (qmt ret k0 n) n
def qhc (_n:Nat):Option AV :=
 qhb (-1:Int)
def qyU (n:Nat) (t0:List Int):Option AV :=
 qmt qhb (qhc n) n t0 (0:Int)
def qfo (s4:Int):Option AV:=some (dc s4)
def qeV (ret:Int→Option AV) (k0:Option AV) (next:List Int→Int→Option AV) (_n:Nat) (t1:List Int) (i5:Int):Option AV :=
 bif (decide (i5 < (t1.length:Int))) then
 bif ((decide (0≤i5))&&(decide (i5 < t1.length))) then
 bif ((t1.getD i5.toNat 0)==(0:Int)) then
 ret (8:Int)
 else
 next t1 (IntKind.wrap .i64 (i5+1))
 else none
 else
 k0
def qjl (ret:Int→Option AV) (k0:Option AV):Nat→List Int→Int→Option AV
 | 0=>fun _ _=>none
 | n+1=>qeV ret k0 (qjl ret k0 n) n
def qhd (_n:Nat):Option AV :=
 qfo (0:Int)
def qyV (n:Nat) (name0:List UInt8) (t1:List Int):Option AV :=
 bif ((qqK name0)&&true) then
 bif (!(z19 name0)) then
 qfo (13:Int)
 else
 bif ((qyn t1)&&true) then
 bif (decide (0≤(z59 t1))) then
 qfo (7:Int)
 else
 qjl qfo (qhd n) n t1 (0:Int)
 else none
 else none
def qkQ (s2:Bool):Option AV:=some (dg s2)
def qeW (ret:Bool→Option AV) (k0:Option AV) (next:List Int→Int→Option AV) (_n:Nat) (t0:List Int) (i3:Int):Option AV :=
 bif (decide (i3 < (t0.length:Int))) then
 bif ((decide (0≤i3))&&(decide (i3 < t0.length))) then
 bif (decide ((t0.getD i3.toNat 0) < (32:Int))) then
 ret false
 else
 bif ((decide (0≤i3))&&(decide (i3 < t0.length))) then
 bif (decide ((126:Int) < (t0.getD i3.toNat 0))) then
 ret false
 else
 next t0 (IntKind.wrap .i64 (i3+1))
 else none
 else none
 else
 k0
def qkR (ret:Bool→Option AV) (k0:Option AV):Nat→List Int→Int→Option AV
 | 0=>fun _ _=>none
 | n+1=>qeW ret k0 (qkR ret k0 n) n
def qjm (_n:Nat):Option AV :=
 qkQ true
def qyW (n:Nat) (t0:List Int):Option AV :=
 qkR qkQ (qjm n) n t0 (0:Int)
def qAA (s2:List UInt8):Option AV:=some (db s2 (some (2,5)))
def qan (s0:List UInt8) (i4:Int):=([(s0.getD i4.toNat (0:UInt8))]:List UInt8)
def qaA (s0:List UInt8) (i4:Int):=((decide (0≤i4))&&(decide (i4 < s0.length)))
def qeX (k0:List UInt8→Option AV) (next:List UInt8→List UInt8→Int→Option AV) (_n:Nat) (s0:List UInt8) (out3:List UInt8) (i4:Int):Option AV :=
 bif (decide (i4 < (s0.length:Int))) then bif (qaA s0 i4) then bif ((s0.getD i4.toNat (0:UInt8))==(34:UInt8)) then bif (decide (out3.length+List.length ([(92:UInt8)]:List UInt8)≤room)) then bif (qaA s0 i4) then bif (decide (List.length (out3++([(92:UInt8)]:List UInt8))+List.length (qan s0 i4)≤room)) then next s0 ((out3++([(92:UInt8)]:List UInt8))++(qan s0 i4)) (IntKind.wrap .i64 (i4+1)) else none else none else none else bif (qaA s0 i4) then bif ((s0.getD i4.toNat (0:UInt8))==(92:UInt8)) then bif (decide (out3.length+List.length ([(92:UInt8)]:List UInt8)≤room)) then bif (qaA s0 i4) then bif (decide (List.length (out3++([(92:UInt8)]:List UInt8))+List.length (qan s0 i4)≤room)) then next s0 ((out3++([(92:UInt8)]:List UInt8))++(qan s0 i4)) (IntKind.wrap .i64 (i4+1)) else none else none else none else bif (qaA s0 i4) then bif (decide (out3.length+List.length (qan s0 i4)≤room)) then next s0 (out3++(qan s0 i4)) (IntKind.wrap .i64 (i4+1)) else none else none else none else none else k0 out3
def qmu (k0:List UInt8→Option AV):Nat→List UInt8→List UInt8→Int→Option AV
 | 0=>fun _ _ _=>none
 | n+1=>qeX k0 (qmu k0 n) n
def qdb (_n:Nat) (out3:List UInt8):Option AV :=
 bif (decide (out3.length+List.length ([(34:UInt8)]:List UInt8)≤room)) then
 qAA (out3++([(34:UInt8)]:List UInt8))
 else none
def qyX (n:Nat) (s0:List UInt8):Option AV :=
 qmu (qdb n) n s0 ([(34:UInt8)]:List UInt8) (0:Int)
def qpi (s2:List UInt8):Option AV:=some (da s2)
def qDi (_n:Nat) (s0:List UInt8):Option AV :=
 bif (decide ((0:Int) < (s0.length:Int))) then
 bif ((qpX s0 (64:Int))&&true) then
 bif ((z37 s0 (64:Int))==(s0.length:Int)) then
 qpi s0
 else
 bif ((qtM s0)&&true) then
 qpi (z98 s0)
 else none
 else none
 else
 bif ((qtM s0)&&true) then
 qpi (z98 s0)
 else none
def qkS (s4:List UInt8):Option AV:=some (db s4 (some (4,5)))
def qeY (k0:List UInt8→List UInt8→Option AV) (next:List UInt8→List Int→List UInt8→Int→Option AV) (_n:Nat) (name0:List UInt8) (t1:List Int) (b5:List UInt8) (i6:Int):Option AV :=
 bif (decide (i6 < (t1.length:Int))) then
 bif ((decide (0≤i6))&&(decide (i6 < t1.length))) then
 bif (decide (b5.length+List.length ([(UInt8.ofNat (IntKind.wrap .u8 (t1.getD i6.toNat 0)).toNat)]:List UInt8)≤room)) then
 next name0 t1 (b5++([(UInt8.ofNat (IntKind.wrap .u8 (t1.getD i6.toNat 0)).toNat)]:List UInt8)) (IntKind.wrap .i64 (i6+1))
 else none
 else none
 else
 k0 name0 b5
def qmv (k0:List UInt8→List UInt8→Option AV):Nat→List UInt8→List Int→List UInt8→Int→Option AV
 | 0=>fun _ _ _ _=>none
 | n+1=>qeY k0 (qmv k0 n) n
def qdc (_n:Nat) (name0:List UInt8) (b5:List UInt8):Option AV :=
 bif (decide (List.length ([]:List UInt8)+name0.length≤room)) then
 bif (decide (List.length (([]:List UInt8)++name0)+List.length ([(61:UInt8)]:List UInt8)≤room)) then
 bif ((qyi b5)&&true) then
 bif (decide (List.length ((([]:List UInt8)++name0)++([(61:UInt8)]:List UInt8))+List.length (z61 b5)≤room)) then
 bif (decide ((74:Int) < ((((([]:List UInt8)++name0)++([(61:UInt8)]:List UInt8))++(z61 b5)).length:Int))) then
 qkS ([]:List UInt8)
 else
 qkS (((([]:List UInt8)++name0)++([(61:UInt8)]:List UInt8))++(z61 b5))
 else none
 else none
 else none
 else none
def qyY (n:Nat) (name0:List UInt8) (t1:List Int):Option AV :=
 bif ((qiR name0 t1)&&true) then
 bif ((z32 name0 t1) != (0:Int)) then
 qkS ([]:List UInt8)
 else
 bif ((qyo t1)&&true) then
 bif (!(z60 t1)) then
 qkS ([]:List UInt8)
 else
 qmv (qdc n) n name0 t1 ([]:List UInt8) (0:Int)
 else none
 else none
def qkT (s2:List UInt8):Option AV:=some (db s2 (some (2,5)))
def qcA (p0:(List UInt8)×(Int×(Bool×((List UInt8)×Unit)))):=((([]:List UInt8)++p0.1)++([(42:UInt8)]:List UInt8))
def qDj (_n:Nat) (p0:(List UInt8)×(Int×(Bool×((List UInt8)×Unit)))):Option AV :=
 bif (decide (List.length ([]:List UInt8)+List.length p0.1≤room)) then bif (decide (0≤p0.2.1)) then bif (decide (List.length (([]:List UInt8)++p0.1)+List.length ([(42:UInt8)]:List UInt8)≤room)) then bif ((qtO p0.2.1)&&true) then bif (decide (List.length (qcA p0)+List.length (z99 p0.2.1)≤room)) then bif p0.2.2.1 then bif (decide (List.length ((qcA p0)++(z99 p0.2.1))+List.length ([(42:UInt8)]:List UInt8)≤room)) then qkT (((qcA p0)++(z99 p0.2.1))++([(42:UInt8)]:List UInt8)) else none else qkT ((qcA p0)++(z99 p0.2.1)) else none else none else none else bif p0.2.2.1 then bif (decide (List.length (([]:List UInt8)++p0.1)+List.length ([(42:UInt8)]:List UInt8)≤room)) then qkT (qcA p0) else none else qkT (([]:List UInt8)++p0.1) else none
def qvg (s6:List UInt8):Option AV:=some (db s6 (some (6,5)))
def qdS (name0:List UInt8) (n1:Int):=((z62 (name0,(n1,(true,(([]:List UInt8),())))))++([(61:UInt8)]:List UInt8))
def qDk (_n:Nat) (name0:List UInt8) (n1:Int) (charset2:List UInt8):Option AV :=
 bif ((qqI (name0,(n1,(true,(([]:List UInt8),())))))&&true) then bif (decide (List.length (z62 (name0,(n1,(true,(([]:List UInt8),())))))+List.length ([(61:UInt8)]:List UInt8)≤room)) then bif (decide (n1≤(0:Int))) then bif (decide (List.length (qdS name0 n1)+charset2.length≤room)) then bif (decide (List.length ((qdS name0 n1)++charset2)+List.length ([(39:UInt8),(39:UInt8)]:List UInt8)≤room)) then qvg (((qdS name0 n1)++charset2)++([(39:UInt8),(39:UInt8)]:List UInt8)) else none else none else qvg (qdS name0 n1) else none else none
def qhe (s2:List (List UInt8)):Option AV:=some (.dat (.sl .str) s2 (some (2,9)))
def qDl (_n:Nat) (n0:Int):Option AV :=
 bif (n0==(1:Int)) then
 qhe ([([117,115,45,97,115,99,105,105]:List UInt8),([97,115,99,105,105]:List UInt8),([97,110,115,105,95,120,51,46,52,45,49,57,54,56]:List UInt8),([105,115,111,54,52,54,45,117,115]:List UInt8)]:List (List UInt8))
 else
 bif (n0==(2:Int)) then
 qhe ([([105,115,111,45,56,56,53,57,45,49]:List UInt8),([105,115,111,95,56,56,53,57,45,49]:List UInt8),([108,97,116,105,110,49]:List UInt8),([108,49]:List UInt8)]:List (List UInt8))
 else
 bif (n0==(3:Int)) then
 qhe ([([105,115,111,45,56,56,53,57,45,49,53]:List UInt8),([105,115,111,95,56,56,53,57,45,49,53]:List UInt8),([108,97,116,105,110,45,57]:List UInt8)]:List (List UInt8))
 else
 bif (n0==(4:Int)) then
 qhe ([([119,105,110,100,111,119,115,45,49,50,53,50]:List UInt8),([99,112,49,50,53,50]:List UInt8)]:List (List UInt8))
 else
 bif (n0==(5:Int)) then
 qhe ([([117,116,102,45,56]:List UInt8),([117,116,102,56]:List UInt8)]:List (List UInt8))
 else
 qhe ([]:List (List UInt8))
def qvh (s2:List UInt8):Option AV:=some (df s2 none)
def qDm (_n:Nat) (n0:Int):Option AV :=
 bif (((z63 n0).length:Int)==(0:Int)) then
 qvh ([]:List UInt8)
 else
 bif ((decide (0≤(0:Int)))&&(decide ((0:Int) < (z63 n0).length))) then
 qvh ((z63 n0).getD (0:Int).toNat ([]:List UInt8))
 else none
def qkU (s4:List (List UInt8)) (s5:Int):Option AV:=some (.tup [(.dat (.sl (.sl .byte)) s4 none),(dc s5)])
def qcB (k0:List UInt8→Int→List (List UInt8)→List UInt8→Option AV) (next:List UInt8→Int→List (List UInt8)→List UInt8→Int→Option AV) (_n:Nat) (name0:List UInt8) (n8:Int) (units10:List (List UInt8)) (whole12:List UInt8) (i13:Int):Option AV :=
 bif (decide (i13 < (units10.length:Int))) then
 bif ((decide (0≤i13))&&(decide (i13 < units10.length))) then
 bif (decide (whole12.length+List.length (units10.getD i13.toNat ([]:List UInt8))≤room)) then
 next name0 n8 units10 (whole12++(units10.getD i13.toNat ([]:List UInt8))) (IntKind.wrap .i64 (i13+1))
 else none
 else none
 else
 k0 name0 n8 units10 whole12
def qfp (k0:List UInt8→Int→List (List UInt8)→List UInt8→Option AV):Nat→List UInt8→Int→List (List UInt8)→List UInt8→Int→Option AV
 | 0=>fun _ _ _ _ _=>none
 | n+1=>qcB k0 (qfp k0 n) n
def qD (out14:List (List UInt8)):=(IntKind.wrap .i64 ((out14.length:Int) - (1:Int)))
def qz (out14:List (List UInt8)):=(IntKind.wrap .i64 ((qD out14)+1))
def qak (out14:List (List UInt8)):=((decide (0≤(qD out14)))&&(decide ((qD out14) < out14.length)))
def qac (name0:List UInt8) (out14:List (List UInt8)):=([(z34 name0 (qz out14) ([]:List UInt8))]:List (List UInt8))
def qal (out14:List (List UInt8)):=(out14.getD (qD out14).toNat ([]:List UInt8))
def qS (units10:List (List UInt8)) (i16:Int):=(units10.getD i16.toNat ([]:List UInt8))
def qaB (units10:List (List UInt8)) (i16:Int):=((decide (0≤i16))&&(decide (i16 < units10.length)))
def qcC (k2:List (List UInt8)→Option AV) (next:List UInt8→List (List UInt8)→List (List UInt8)→Bool→Int→Option AV) (_n:Nat) (name0:List UInt8) (units10:List (List UInt8)) (out14:List (List UInt8)) (fresh15:Bool) (i16:Int):Option AV :=
 bif (decide (i16 < (units10.length:Int))) then bif (!fresh15) then bif (qak out14) then bif (qaB units10 i16) then bif (decide ((74:Int) < (IntKind.wrap .i64 (((qal out14).length:Int)+((qS units10 i16).length:Int))))) then bif ((qfy name0 (qz out14) ([]:List UInt8))&&true) then bif (decide (out14.length+List.length (qac name0 out14)≤room)) then bif ((decide (0≤(qz out14)))&&(decide ((qz out14) < (out14++(qac name0 out14)).length))) then bif (qaB units10 i16) then bif (decide (List.length ((out14++(qac name0 out14)).getD (qz out14).toNat ([]:List UInt8))+List.length (qS units10 i16)≤room)) then bif ((decide (0≤(qz out14)))&&(decide ((qz out14) < (out14++(qac name0 out14)).length))) then bif (((qz out14).toNat==(qz out14).toNat)&&true) then next name0 units10 (List.set (out14++(qac name0 out14)) (qz out14).toNat (((out14++(qac name0 out14)).getD (qz out14).toNat ([]:List UInt8))++(qS units10 i16))) false (IntKind.wrap .i64 (i16+1)) else none else none else none else none else none else none else none else bif (qak out14) then bif (qaB units10 i16) then bif (decide (List.length (qal out14)+List.length (qS units10 i16)≤room)) then bif (qak out14) then bif (((qD out14).toNat==(qD out14).toNat)&&true) then next name0 units10 (List.set out14 (qD out14).toNat ((qal out14)++(qS units10 i16))) false (IntKind.wrap .i64 (i16+1)) else none else none else none else none else none else none else none else bif (qak out14) then bif (qaB units10 i16) then bif (decide (List.length (qal out14)+List.length (qS units10 i16)≤room)) then bif (qak out14) then bif (((qD out14).toNat==(qD out14).toNat)&&true) then next name0 units10 (List.set out14 (qD out14).toNat ((qal out14)++(qS units10 i16))) false (IntKind.wrap .i64 (i16+1)) else none else none else none else none else none else k2 out14
def qhf (k2:List (List UInt8)→Option AV):Nat→List UInt8→List (List UInt8)→List (List UInt8)→Bool→Int→Option AV
 | 0=>fun _ _ _ _ _=>none
 | n+1=>qcC k2 (qhf k2 n) n
def qdT (_n:Nat) (out14:List (List UInt8)):Option AV :=
 qkU out14 (0:Int)
def qcD (n:Nat) (name0:List UInt8) (n8:Int) (units10:List (List UInt8)) (whole12:List UInt8):Option AV :=
 bif (decide ((whole12.length:Int)≤(74:Int))) then
 qkU ([whole12]:List (List UInt8)) (0:Int)
 else
 bif ((qfy name0 (0:Int) (z35 n8))&&true) then
 qhf (qdT n) n name0 units10 ([(z34 name0 (0:Int) (z35 n8))]:List (List UInt8)) true (0:Int)
 else none
def qyZ (n:Nat) (name0:List UInt8) (t1:List Int):Option AV :=
 bif ((qiR name0 t1)&&true) then
 bif ((z32 name0 t1) != (0:Int)) then
 qkU ([]:List (List UInt8)) (z32 name0 t1)
 else
 bif ((qkF name0 t1)&&true) then
 bif (decide ((0:Int) < ((z33 name0 t1).length:Int))) then
 qkU ([(z33 name0 t1)]:List (List UInt8)) (0:Int)
 else
 bif ((qpP t1)&&true) then
 bif ((qiS t1)&&true) then
 bif ((qfy name0 (-1:Int) (z35 ((z24 t1).1)))&&true) then
 qfp (qcD n) n name0 ((z24 t1).1) ((z10 t1).1) (z34 name0 (-1:Int) (z35 ((z24 t1).1))) (0:Int)
 else none
 else none
 else none
 else none
 else none
def qHg (s4:List UInt8) (s5:Int):Option AV:=some (.tup [(da s4),(dc s5)])
def qcc:=([(59:UInt8),(13:UInt8),(10:UInt8),(32:UInt8)]:List UInt8)
def qhQ (k0:Int→List UInt8→Option AV) (next:List (List UInt8)→Int→List UInt8→Int→Option AV) (_n:Nat) (l6:List (List UInt8)) (e7:Int) (out8:List UInt8) (i9:Int):Option AV :=
 bif (decide (i9 < (l6.length:Int))) then bif ((decide (0≤i9))&&(decide (i9 < l6.length))) then bif (decide (out8.length+List.length (qcc)≤room)) then bif (decide (List.length (out8++(qcc))+List.length (l6.getD i9.toNat ([]:List UInt8))≤room)) then next l6 e7 ((out8++(qcc))++(l6.getD i9.toNat ([]:List UInt8))) (IntKind.wrap .i64 (i9+1)) else none else none else none else k0 e7 out8
def z8_l4 (k0:Int→List UInt8→Option AV):Nat→List (List UInt8)→Int→List UInt8→Int→Option AV
 | 0=>fun _ _ _ _=>none
 | n+1=>qhQ k0 (z8_l4 k0 n) n
def qhR (_n:Nat) (e7:Int) (out8:List UInt8):Option AV :=
 qHg out8 e7
def z8_sh (n:Nat) (name0:List UInt8) (t1:List Int):Option AV :=
 bif ((qkG name0 t1)&&true) then
 z8_l4 (qhR n) n ((z14 name0 t1).1) ((z14 name0 t1).2) ([]:List UInt8) (0:Int)
 else none
def qDn (s2:List (List UInt8)) (s3:Int):Option AV:=some (.tup [(.dat (.sl (.sl .byte)) s2 none),(dc s3)])
def z9_sh (_n:Nat) (t0:List Int):Option AV :=
 bif ((qpO t0)&&true) then
 bif (((z22 t0).2) != (0:Int)) then
 qDn ([]:List (List UInt8)) ((z22 t0).2)
 else
 bif ((qqM ((z22 t0).1) t0)&&true) then
 qDn (z23 ((z22 t0).1) t0) (0:Int)
 else none
 else none
def qhS (s4:Bool):Option AV:=some (dg s4)
def qeZ (ret:Bool→Option AV) (k0:Option AV) (next:List UInt8→List UInt8→Int→Option AV) (_n:Nat) (a0:List UInt8) (b1:List UInt8) (i5:Int):Option AV :=
 bif (decide (i5 < (a0.length:Int))) then
 bif ((decide (0≤i5))&&(decide (i5 < a0.length))) then
 bif ((decide (0≤i5))&&(decide (i5 < b1.length))) then
 bif ((a0.getD i5.toNat (0:UInt8)) != (b1.getD i5.toNat (0:UInt8))) then
 ret false
 else
 next a0 b1 (IntKind.wrap .i64 (i5+1))
 else none
 else none
 else
 k0
def qjn (ret:Bool→Option AV) (k0:Option AV):Nat→List UInt8→List UInt8→Int→Option AV
 | 0=>fun _ _ _=>none
 | n+1=>qeZ ret k0 (qjn ret k0 n) n
def qjo (_n:Nat):Option AV :=
 qhS true
def qza (n:Nat) (a0:List UInt8) (b1:List UInt8):Option AV :=
 bif ((a0.length:Int) != (b1.length:Int)) then
 qhS false
 else
 qjn qhS (qjo n) n a0 b1 (0:Int)
def qhT (s4:Bool):Option AV:=some (dg s4)
def qfa (ret:Bool→Option AV) (k0:Option AV) (next:List (List UInt8)→List (List UInt8)→Int→Int→Option AV) (_n:Nat) (a0:List (List UInt8)) (b1:List (List UInt8)) (s12:Int) (s13:Int):Option AV :=
 bif (decide (s13 < s12)) then
 bif ((decide (0≤s13))&&(decide (s13 < a0.length))) then
 bif ((decide (0≤s13))&&(decide (s13 < b1.length))) then
 bif ((qpV (a0.getD s13.toNat ([]:List UInt8)) (b1.getD s13.toNat ([]:List UInt8)))&&true) then
 bif (!(z11 (a0.getD s13.toNat ([]:List UInt8)) (b1.getD s13.toNat ([]:List UInt8)))) then
 ret false
 else
 next a0 b1 s12 (IntKind.wrap .i64 (s13+1))
 else none
 else none
 else none
 else
 k0
def qkV (ret:Bool→Option AV) (k0:Option AV):Nat→List (List UInt8)→List (List UInt8)→Int→Int→Option AV
 | 0=>fun _ _ _ _=>none
 | n+1=>qfa ret k0 (qkV ret k0 n) n
def qjp (_n:Nat):Option AV :=
 qhT true
def qzb (n:Nat) (a0:List (List UInt8)) (b1:List (List UInt8)):Option AV :=
 bif ((a0.length:Int) != (b1.length:Int)) then
 qhT false
 else
 qkV qhT (qjp n) n a0 b1 (a0.length:Int) (0:Int)
def qkW (s4:Bool):Option AV:=some (dg s4)
def z3_sh (_n:Nat) (name0:List UInt8) (t1:List Int):Option AV :=
 bif (decide ((100:Int) < (name0.length:Int))) then
 qkW z6
 else
 bif (decide ((100:Int) < (t1.length:Int))) then
 qkW z6
 else
 bif ((z7_ok name0 t1)&&true) then
 bif ((z8_ok name0 t1)&&true) then
 bif ((z9_ok t1)&&true) then
 bif ((qiS t1)&&true) then
 bif ((qpV ((z7 name0 t1).1) ((z8 name0 t1).1))&&true) then
 bif (z11 ((z7 name0 t1).1) ((z8 name0 t1).1)) then
 bif (((z7 name0 t1).2)==((z8 name0 t1).2)) then
 bif ((qlR ((z9 t1).1) ((z10 t1).1))&&true) then
 bif (z12 ((z9 t1).1) ((z10 t1).1)) then
 bif (((z9 t1).2)==((z10 t1).2)) then
 qkW z6
 else
 qkW false
 else
 qkW false
 else none
 else
 qkW false
 else
 qkW false
 else none
 else none
 else none
 else none
 else none
def qAB (s4:Int):Option AV:=some (dc s4)
def qDo (_n:Nat) (name0:List UInt8) (t1:List Int):Option AV :=
 bif ((qhu name0 t1)&&true) then
 qAB (((z13 name0 t1).1).length:Int)
 else none
def qvi (s4:Bool):Option AV:=some (dg s4)
def qDp (_n:Nat) (name0:List UInt8) (t1:List Int):Option AV :=
 bif ((qiQ name0 t1)&&true) then
 bif ((z27 name0 t1) != (0:Int)) then
 qvi false
 else
 bif ((qkE name0 t1)&&true) then
 qvi ((z28 name0 t1).2)
 else none
 else none
def qAC (s4:Bool):Option AV:=some (dg s4)
def qDq (_n:Nat) (name0:List UInt8) (t1:List Int):Option AV :=
 bif ((qkF name0 t1)&&true) then
 qAC (decide ((0:Int) < ((z33 name0 t1).length:Int)))
 else none
def qjq (s4:Bool):Option AV:=some (dg s4)
def z4_sh (_n:Nat) (name0:List UInt8) (t1:List Int):Option AV :=
 bif (decide ((100:Int) < (name0.length:Int))) then
 qjq z6
 else
 bif (decide ((100:Int) < (t1.length:Int))) then
 qjq z6
 else
 bif ((qhu name0 t1)&&true) then
 bif ((qkG name0 t1)&&true) then
 bif ((qlR ((z13 name0 t1).1) ((z14 name0 t1).1))&&true) then
 bif (z12 ((z13 name0 t1).1) ((z14 name0 t1).1)) then
 bif (((z13 name0 t1).2)==((z14 name0 t1).2)) then
 bif ((qyp name0 t1)&&true) then
 bif ((z15 name0 t1)==(((z14 name0 t1).1).length:Int)) then
 bif ((qqL name0 t1)&&true) then
 bif ((qtQ name0 t1)&&true) then
 bif ((z16 name0 t1)==(z17 name0 t1)) then
 bif ((qqJ name0)&&true) then
 bif ((qqK name0)&&true) then
 bif ((z18 name0)==(z19 name0)) then
 qjq z6
 else
 qjq false
 else none
 else none
 else
 qjq false
 else none
 else none
 else
 qjq false
 else none
 else
 qjq false
 else
 qjq false
 else none
 else none
 else none
end
end Go.Av
