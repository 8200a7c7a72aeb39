import Derived.Test.YtabdohophompiaaGreatDoorPxM2
namespace Go.Av
set_option linter.unusedSimpArgs false
set_option linter.unusedVariables false
noncomputable section
def qsP (s2:Bool):Option AV:=some (dg s2)
def qye (_n:Nat) (c0:Int):Option AV :=
 qsP (decide ((IntKind.wrap .u32 c0) < (256:Int)))
def qsQ (s0:List (UInt8×(Int×Unit))):Option AV:=some (.dat (.arr 8 (.pair .byte (.pair (.int .i32) .unit))) s0 none)
def qyf (_n:Nat):Option AV :=
 qsQ ([((164:UInt8),((8364:Int),())),((166:UInt8),((352:Int),())),((168:UInt8),((353:Int),())),((180:UInt8),((381:Int),())),((184:UInt8),((382:Int),())),((188:UInt8),((338:Int),())),((189:UInt8),((339:Int),())),((190:UInt8),((376:Int),()))]:List (UInt8×(Int×Unit)))
def qbX (s2:UInt8) (s3:Bool):Option AV:=some (.tup [(dm s2 none),(dg s3)])
def qnU (ret:UInt8→Bool→Option AV) (k0:Int→Option AV) (next:Int→List (UInt8×(Int×Unit))→Int→Option AV) (_n:Nat) (c0:Int) (s6:List (UInt8×(Int×Unit))) (s7:Int):Option AV :=
 bif (decide (s7 < (8:Int))) then
 bif ((decide (0≤s7))&&(decide (s7 < (8:Nat)))) then
 bif (c0==(s6.getD s7.toNat ((0:UInt8),((0:Int),()))).2.1) then
 ret (s6.getD s7.toNat ((0:UInt8),((0:Int),()))).1 true
 else
 bif (c0==(IntKind.wrap .i32 ((UInt8.toNat (s6.getD s7.toNat ((0:UInt8),((0:Int),()))).1:Nat):Int))) then
 ret (0:UInt8) false
 else
 next c0 s6 (IntKind.wrap .i64 (s7+1))
 else none
 else
 k0 c0
def qhA (ret:UInt8→Bool→Option AV) (k0:Int→Option AV):Nat→Int→List (UInt8×(Int×Unit))→Int→Option AV
 | 0=>fun _ _ _=>none
 | n+1=>qnU ret k0 (qhA ret k0 n) n
def qcs (_n:Nat) (c0:Int):Option AV :=
 bif (decide (c0 < (0:Int))) then
 qbX (0:UInt8) false
 else
 bif (decide ((256:Int)≤c0)) then
 qbX (0:UInt8) false
 else
 qbX (UInt8.ofNat (IntKind.wrap .u8 c0).toNat) true
def qsR (n:Nat) (c0:Int):Option AV :=
 qhA qbX (qcs n) n c0 z130 (0:Int)
def qsS (s2:Bool):Option AV:=some (dg s2)
def qyg (_n:Nat) (c0:Int):Option AV :=
 qsS ((z113 c0).2)
def qkz (s4:Int):Option AV:=some (dc s4)
def qeo (ret:Int→Option AV) (k0:Option AV) (next:List Int→Int→Int→Int→Option AV) (_n:Nat) (s0:List Int) (v1:Int) (s7:Int) (s8:Int):Option AV :=
 bif (decide (s8 < s7)) then
 bif ((decide (0≤s8))&&(decide (s8 < s0.length))) then
 bif (v1==(s0.getD s8.toNat 0)) then
 ret s8
 else
 next s0 v1 s7 (IntKind.wrap .i64 (s8+1))
 else none
 else
 k0
def qlD (ret:Int→Option AV) (k0:Option AV):Nat→List Int→Int→Int→Int→Option AV
 | 0=>fun _ _ _ _=>none
 | n+1=>qeo ret k0 (qlD ret k0 n) n
def qgD (_n:Nat):Option AV :=
 qkz (-1:Int)
def qwO (n:Nat) (s0:List Int) (v1:Int):Option AV :=
 qlD qkz (qgD n) n s0 v1 (s0.length:Int) (0:Int)
def qsT (s0:List Int):Option AV:=some (.dat (.sl (.int .i32)) s0 none)
def qyh (_n:Nat):Option AV :=
 qsT (List.drop 0 (List.take 32 ([(8364:Int),(0:Int),(8218:Int),(402:Int),(8222:Int),(8230:Int),(8224:Int),(8225:Int),(710:Int),(8240:Int),(352:Int),(8249:Int),(338:Int),(0:Int),(381:Int),(0:Int),(0:Int),(8216:Int),(8217:Int),(8220:Int),(8221:Int),(8226:Int),(8211:Int),(8212:Int),(732:Int),(8482:Int),(353:Int),(8250:Int),(339:Int),(0:Int),(382:Int),(376:Int)]:List Int)))
def qP (s2:UInt8) (s3:Bool):Option AV:=some (.tup [(dm s2 none),(dg s3)])
def qbs (c0:Int):=(UInt8.ofNat (IntKind.wrap .u8 (IntKind.wrap .i64 ((128:Int)+(z89 z131 c0)))).toNat)
def qbt (c0:Int):=(decide ((z89 z131 c0) < (0:Int)))
def qbu (c0:Int):=((qoG z131 c0)&&true)
def qsU (_n:Nat) (c0:Int):Option AV :=
 bif (decide (0≤c0)) then bif (decide (c0 < (128:Int))) then bif (decide (c0 < (128:Int))) then qP (UInt8.ofNat (IntKind.wrap .u8 c0).toNat) true else bif (decide (c0 < (256:Int))) then qP (0:UInt8) false else bif (qbu c0) then bif (qbt c0) then qP (0:UInt8) false else qP (qbs c0) true else none else bif (decide ((160:Int)≤c0)) then bif (decide (c0 < (256:Int))) then qP (UInt8.ofNat (IntKind.wrap .u8 c0).toNat) true else bif (decide (c0 < (256:Int))) then qP (0:UInt8) false else bif (qbu c0) then bif (qbt c0) then qP (0:UInt8) false else qP (qbs c0) true else none else bif (decide (c0 < (256:Int))) then qP (0:UInt8) false else bif (qbu c0) then bif (qbt c0) then qP (0:UInt8) false else qP (qbs c0) true else none else bif (decide ((160:Int)≤c0)) then bif (decide (c0 < (256:Int))) then qP (UInt8.ofNat (IntKind.wrap .u8 c0).toNat) true else bif (decide (c0 < (256:Int))) then qP (0:UInt8) false else bif (qbu c0) then bif (qbt c0) then qP (0:UInt8) false else qP (qbs c0) true else none else bif (decide (c0 < (256:Int))) then qP (0:UInt8) false else bif (qbu c0) then bif (qbt c0) then qP (0:UInt8) false else qP (qbs c0) true else none
def qsV (s2:Bool):Option AV:=some (dg s2)
def qyi (_n:Nat) (c0:Int):Option AV :=
 qsV ((z115 c0).2)
def qlE (s2:Bool):Option AV:=some (dg s2)
def qsW (_n:Nat) (c0:Int):Option AV :=
 bif (decide ((55296:Int)≤c0)) then
 qlE (decide (c0≤(57343:Int)))
 else
 qlE false
def qlF (s2:Bool):Option AV:=some (dg s2)
def qsX (_n:Nat) (c0:Int):Option AV :=
 bif (decide ((IntKind.wrap .u32 c0)≤(1114111:Int))) then
 qlF (!(z127 c0))
 else
 qlF false
def qfi (s4:Bool):Option AV:=some (dg s4)
def qAH (_n:Nat) (charset0:Int) (c1:Int):Option AV :=
 bif (charset0==(1:Int)) then
 bif (decide (0≤c1)) then
 qfi (decide (c1 < (128:Int)))
 else
 qfi false
 else
 bif (charset0==(2:Int)) then
 qfi (z105 c1)
 else
 bif (charset0==(3:Int)) then
 qfi (z106 c1)
 else
 bif (charset0==(4:Int)) then
 qfi (z107 c1)
 else
 bif (charset0==(5:Int)) then
 qfi (z108 c1)
 else
 qfi false
def qsY (s2:Int):Option AV:=some (dc s2)
def qep (k0:Int→Option AV) (next:Int→Int→Int→Option AV) (_n:Nat) (c0:Int) (s3:Int) (s5:Int):Option AV :=
 bif (decide (s5 < (5:Int))) then
 bif (z72 (IntKind.wrap .i64 (s5+1)) c0) then
 bif (decide (0≤(IntKind.wrap .i64 (s5+1)))) then
 next c0 (bits .or .i64 s3 (IntKind.wrap .i64 ((1:Int)*2 ^ (min (IntKind.wrap .i64 (s5+1)).toNat (IntKind.bits .i64))))) (IntKind.wrap .i64 (s5+1))
 else none
 else
 next c0 s3 (IntKind.wrap .i64 (s5+1))
 else
 k0 s3
def qiW (k0:Int→Option AV):Nat→Int→Int→Int→Option AV
 | 0=>fun _ _ _=>none
 | n+1=>qep k0 (qiW k0 n) n
def qcT (_n:Nat) (s3:Int):Option AV :=
 qsY s3
def qwP (n:Nat) (c0:Int):Option AV :=
 qiW (qcT n) n c0 (0:Int) (0:Int)
def qyj (s2:Int):Option AV:=some (dc s2)
def qAI (_n:Nat) (x0:Int):Option AV :=
 bif ((qqW x0)&&true) then
 qyj (z110 x0)
 else none
def qsZ (s2:Int):Option AV:=some (dc s2)
def qAJ (_n:Nat) (sets0:Int):Option AV :=
 bif (sets0==(0:Int)) then
 qsZ (0:Int)
 else
 bif ((quE (IntKind.wrap .u64 sets0))&&true) then
 qsZ (z73 (IntKind.wrap .u64 sets0))
 else none
def qta (s2:Int) (s3:Int):Option AV:=some (.tup [(dc s2),(dc s3)])
def qeq (k0:Int→Option AV) (next:Int→List Int→Int→Int→Option AV) (_n:Nat) (all4:Int) (s7:List Int) (s8:Int) (s9:Int):Option AV :=
 bif (decide (s9 < s8)) then
 bif ((decide (0≤s9))&&(decide (s9 < s7.length))) then
 next (bits .and .i64 all4 (z42 (s7.getD s9.toNat 0))) s7 s8 (IntKind.wrap .i64 (s9+1))
 else none
 else
 k0 all4
def qlG (k0:Int→Option AV):Nat→Int→List Int→Int→Int→Option AV
 | 0=>fun _ _ _ _=>none
 | n+1=>qeq k0 (qlG k0 n) n
def qcU (_n:Nat) (all4:Int):Option AV :=
 bif (all4==(0:Int)) then
 qta (0:Int) (7:Int)
 else
 bif ((quF all4)&&true) then
 qta (z43 all4) (0:Int)
 else none
def qwQ (n:Nat) (t0:List Int):Option AV :=
 qlG (qcU n) n (62:Int) t0 (t0.length:Int) (0:Int)
def qkA (s2:Int):Option AV:=some (dc s2)
def qer (ret:Int→Option AV) (k0:Option AV) (next:List Int→Int→Int→Option AV) (_n:Nat) (t0:List Int) (s5:Int) (s6:Int):Option AV :=
 bif (decide (s6 < s5)) then
 bif ((decide (0≤s6))&&(decide (s6 < t0.length))) then
 bif (!(z105 (t0.getD s6.toNat 0))) then
 ret s6
 else
 next t0 s5 (IntKind.wrap .i64 (s6+1))
 else none
 else
 k0
def qlH (ret:Int→Option AV) (k0:Option AV):Nat→List Int→Int→Int→Option AV
 | 0=>fun _ _ _=>none
 | n+1=>qer ret k0 (qlH ret k0 n) n
def qgE (_n:Nat):Option AV :=
 qkA (-1:Int)
def qwR (n:Nat) (t0:List Int):Option AV :=
 qlH qkA (qgE n) n t0 (t0.length:Int) (0:Int)
def qtb (s2:List UInt8) (s3:Int):Option AV:=some (.tup [(da s2),(dc s3)])
def qes (k0:List UInt8→Option AV) (next:List UInt8→List Int→Int→Int→Option AV) (_n:Nat) (s4:List UInt8) (s13:List Int) (s14:Int) (s15:Int):Option AV :=
 bif (decide (s15 < s14)) then
 bif ((decide (0≤s15))&&(decide (s15 < s13.length))) then
 bif ((decide (0≤s15))&&(decide (s15 < s4.length))) then
 next (List.set s4 s15.toNat (UInt8.ofNat (IntKind.wrap .u8 (s13.getD s15.toNat 0)).toNat)) s13 s14 (IntKind.wrap .i64 (s15+1))
 else none
 else none
 else
 k0 s4
def qiX (k0:List UInt8→Option AV):Nat→List UInt8→List Int→Int→Int→Option AV
 | 0=>fun _ _ _ _=>none
 | n+1=>qes k0 (qiX k0 n) n
def qet (_n:Nat) (s4:List UInt8):Option AV :=
 qtb s4 (0:Int)
def qwS (n:Nat) (t0:List Int):Option AV :=
 bif ((quM t0)&&true) then
 bif ((z92 t0) != (-1:Int)) then
 qtb ([]:List UInt8) (9:Int)
 else
 bif (((decide (0≤(t0.length:Int)))&&(decide ((t0.length:Int)≤(t0.length:Int))))&&(decide ((t0.length:Int)≤(room:Int)))) then
 qiX (qet n) n (List.replicate (t0.length:Int).toNat (0:UInt8)) t0 (t0.length:Int) (0:Int)
 else none
 else none
def qcJ (s2:Int):Option AV:=some (dc s2)
def qAK (_n:Nat) (charset0:Int):Option AV :=
 bif (charset0==(1:Int)) then
 qcJ (128:Int)
 else
 bif (charset0==(2:Int)) then
 bif (charset0==(2:Int)) then
 qcJ (256:Int)
 else
 bif (charset0==(4:Int)) then
 qcJ (251:Int)
 else
 bif (charset0==(5:Int)) then
 qcJ (1112064:Int)
 else
 qcJ (0:Int)
 else
 bif (charset0==(3:Int)) then
 qcJ (256:Int)
 else
 bif (charset0==(4:Int)) then
 qcJ (251:Int)
 else
 bif (charset0==(5:Int)) then
 qcJ (1112064:Int)
 else
 qcJ (0:Int)
def qgF (s4:Int):Option AV:=some (dc s4)
def qct (ret:Int→Option AV) (k0:Option AV) (next:Int→List Int→Int→Int→Option AV) (_n:Nat) (charset0:Int) (s7:List Int) (s8:Int) (s9:Int):Option AV :=
 bif (decide (s9 < s8)) then
 bif ((decide (0≤s9))&&(decide (s9 < s7.length))) then
 bif (!(z72 charset0 (s7.getD s9.toNat 0))) then
 ret s9
 else
 next charset0 s7 s8 (IntKind.wrap .i64 (s9+1))
 else none
 else
 k0
def qgG (ret:Int→Option AV) (k0:Option AV):Nat→Int→List Int→Int→Int→Option AV
 | 0=>fun _ _ _ _=>none
 | n+1=>qct ret k0 (qgG ret k0 n) n
def qdE (_n:Nat):Option AV :=
 qgF (-1:Int)
def qnV (n:Nat) (charset0:Int) (t1:List Int):Option AV :=
 qgG qgF (qdE n) n charset0 t1 (t1.length:Int) (0:Int)
def qtc (s4:Bool):Option AV:=some (dg s4)
def qAL (_n:Nat) (charset0:Int) (t1:List Int):Option AV :=
 bif (decide ((0:Int) < (z74 charset0))) then
 bif ((qmN charset0 t1)&&true) then
 qtc ((z111 charset0 t1)==(-1:Int))
 else none
 else
 qtc false
def qtd (s2:Bool):Option AV:=some (dg s2)
def qAM (_n:Nat) (c0:Int):Option AV :=
 bif (decide (c0 < (32:Int))) then
 qtd true
 else
 qtd (decide ((126:Int) < c0))
def qte (s2:Bool):Option AV:=some (dg s2)
def qyk (_n:Nat) (c0:Int):Option AV :=
 qte (!(z108 c0))
def qbv (s4:Int):Option AV:=some (dc s4)
def qaw (ret:Int→Option AV) (k0:Option AV) (next:List Int→Int→Int→Option AV) (_n:Nat) (s0:List Int) (s7:Int) (s8:Int):Option AV :=
 bif (decide (s8 < s7)) then
 bif ((decide (0≤s8))&&(decide (s8 < s0.length))) then
 bif (z122 (s0.getD s8.toNat 0)) then
 ret s8
 else
 next s0 s7 (IntKind.wrap .i64 (s8+1))
 else none
 else
 k0
def qaW (ret:Int→Option AV) (k0:Option AV):Nat→List Int→Int→Int→Option AV
 | 0=>fun _ _ _=>none
 | n+1=>qaw ret k0 (qaW ret k0 n) n
def qaX (_n:Nat):Option AV :=
 qbv (-1:Int)
def qdF (n:Nat) (s0:List Int):Option AV :=
 qaW qbv (qaX n) n s0 (s0.length:Int) (0:Int)
def qbw (s4:Int):Option AV:=some (dc s4)
def qax (ret:Int→Option AV) (k0:Option AV) (next:List Int→Int→Int→Option AV) (_n:Nat) (s0:List Int) (s7:Int) (s8:Int):Option AV :=
 bif (decide (s8 < s7)) then
 bif ((decide (0≤s8))&&(decide (s8 < s0.length))) then
 bif (z91 (s0.getD s8.toNat 0)) then
 ret s8
 else
 next s0 s7 (IntKind.wrap .i64 (s8+1))
 else none
 else
 k0
def qaY (ret:Int→Option AV) (k0:Option AV):Nat→List Int→Int→Int→Option AV
 | 0=>fun _ _ _=>none
 | n+1=>qax ret k0 (qaY ret k0 n) n
def qaZ (_n:Nat):Option AV :=
 qbw (-1:Int)
def qdG (n:Nat) (s0:List Int):Option AV :=
 qaY qbw (qaZ n) n s0 (s0.length:Int) (0:Int)
def qyl (s2:Int):Option AV:=some (dc s2)
def qAN (_n:Nat) (t0:List Int):Option AV :=
 bif ((qcI t0)&&true) then
 qyl (z121 t0)
 else none
def qym (s2:Bool):Option AV:=some (dg s2)
def qAO (_n:Nat) (t0:List Int):Option AV :=
 bif ((quL t0)&&true) then
 qym ((z88 t0)==(-1:Int))
 else none
def qeu (s2:Int):Option AV:=some (dc s2)
def qtf (_n:Nat) (c0:Int):Option AV :=
 bif (!(z108 c0)) then
 qeu (0:Int)
 else
 bif (decide (c0 < (128:Int))) then
 qeu (1:Int)
 else
 bif (decide (c0 < (2048:Int))) then
 qeu (2:Int)
 else
 bif (decide (c0 < (65536:Int))) then
 qeu (3:Int)
 else
 qeu (4:Int)
def qgH (s2:UInt8):Option AV:=some (dm s2 none)
def qtg (_n:Nat) (n0:Int):Option AV :=
 bif (n0==(2:Int)) then
 qgH (192:UInt8)
 else
 bif (n0==(3:Int)) then
 qgH (224:UInt8)
 else
 bif (n0==(4:Int)) then
 qgH (240:UInt8)
 else
 qgH (0:UInt8)
def qev (s4:List UInt8) (s5:Int):Option AV:=some (.tup [(da s4),(dc s5)])
def qgI (c1:Int):=([((z129 (z128 c1)) ||| (UInt8.ofNat (IntKind.wrap .u8 (Int.fdiv c1 (2 ^ (min (IntKind.wrap .i64 ((6:Int)*(IntKind.wrap .i64 ((z128 c1) - (1:Int))))).toNat (IntKind.bits .i32))))).toNat))]:List UInt8)
def qba (c1:Int):=([((128:UInt8) ||| ((UInt8.ofNat (IntKind.wrap .u8 (Int.fdiv c1 (2 ^ (min (6:Int).toNat (IntKind.bits .i32))))).toNat) &&& (63:UInt8)))]:List UInt8)
def qbY (c1:Int):=([((128:UInt8) ||| ((UInt8.ofNat (IntKind.wrap .u8 (Int.fdiv c1 (2 ^ (min (12:Int).toNat (IntKind.bits .i32))))).toNat) &&& (63:UInt8)))]:List UInt8)
def qbb (c1:Int):=([((128:UInt8) ||| ((UInt8.ofNat (IntKind.wrap .u8 c1).toNat) &&& (63:UInt8)))]:List UInt8)
def qZ (b0:List UInt8) (c1:Int):=((z53 b0)++(qgI c1))
def qth (_n:Nat) (b0:List UInt8) (c1:Int):Option AV :=
 bif ((z128 c1)==(0:Int)) then qev ([]:List UInt8) (7:Int) else bif (decide (0≤(IntKind.wrap .i64 ((6:Int)*(IntKind.wrap .i64 ((z128 c1) - (1:Int))))))) then bif ((qgt b0)&&true) then bif (decide (List.length (z53 b0)+List.length (qgI c1)≤room)) then bif ((z128 c1)==(4:Int)) then bif (decide (List.length (qZ b0 c1)+List.length (qbY c1)≤room)) then bif (decide (List.length ((qZ b0 c1)++(qbY c1))+List.length (qba c1)≤room)) then bif (decide (List.length (((qZ b0 c1)++(qbY c1))++(qba c1))+List.length (qbb c1)≤room)) then qev ((((qZ b0 c1)++(qbY c1))++(qba c1))++(qbb c1)) (0:Int) else none else none else none else bif ((z128 c1)==(3:Int)) then bif (decide (List.length (qZ b0 c1)+List.length (qba c1)≤room)) then bif (decide (List.length ((qZ b0 c1)++(qba c1))+List.length (qbb c1)≤room)) then qev (((qZ b0 c1)++(qba c1))++(qbb c1)) (0:Int) else none else none else bif ((z128 c1)==(2:Int)) then bif (decide (List.length (qZ b0 c1)+List.length (qbb c1)≤room)) then qev ((qZ b0 c1)++(qbb c1)) (0:Int) else none else qev (qZ b0 c1) (0:Int) else none else none else none
def qti (s2:List UInt8) (s3:Int):Option AV:=some (.tup [(da s2),(dc s3)])
def qew (k0:List UInt8→Option AV) (next:List UInt8→List Int→Int→Int→Option AV) (_n:Nat) (out4:List UInt8) (s12:List Int) (s13:Int) (s14:Int):Option AV :=
 bif (decide (s14 < s13)) then
 bif ((decide (0≤s14))&&(decide (s14 < s12.length))) then
 bif ((qmL ([]:List UInt8) (s12.getD s14.toNat 0))&&true) then
 bif (decide (out4.length+List.length ((z112 ([]:List UInt8) (s12.getD s14.toNat 0)).1)≤room)) then
 next (out4++((z112 ([]:List UInt8) (s12.getD s14.toNat 0)).1)) s12 s13 (IntKind.wrap .i64 (s14+1))
 else none
 else none
 else none
 else
 k0 out4
def qlI (k0:List UInt8→Option AV):Nat→List UInt8→List Int→Int→Int→Option AV
 | 0=>fun _ _ _ _=>none
 | n+1=>qew k0 (qlI k0 n) n
def qex (_n:Nat) (out4:List UInt8):Option AV :=
 qti out4 (0:Int)
def qwT (n:Nat) (t0:List Int):Option AV :=
 bif ((qoH t0)&&true) then
 bif (!(z49 t0)) then
 qti ([]:List UInt8) (7:Int)
 else
 qlI (qex n) n ([]:List UInt8) t0 (t0.length:Int) (0:Int)
 else none
def qhB (s2:List UInt8) (s3:Int):Option AV:=some (.tup [(da s2),(dc s3)])
def qey (ret:List UInt8→Int→Option AV) (k0:List UInt8→Option AV) (next:List UInt8→List Int→Int→Int→Option AV) (_n:Nat) (s4:List UInt8) (s9:List Int) (s10:Int) (s11:Int):Option AV :=
 bif (decide (s11 < s10)) then
 bif ((decide (0≤s11))&&(decide (s11 < s9.length))) then
 bif (!((z113 (s9.getD s11.toNat 0)).2)) then
 ret ([]:List UInt8) (9:Int)
 else
 bif (decide (s4.length+List.length ([((z113 (s9.getD s11.toNat 0)).1)]:List UInt8)≤room)) then
 next (s4++([((z113 (s9.getD s11.toNat 0)).1)]:List UInt8)) s9 s10 (IntKind.wrap .i64 (s11+1))
 else none
 else none
 else
 k0 s4
def qlJ (ret:List UInt8→Int→Option AV) (k0:List UInt8→Option AV):Nat→List UInt8→List Int→Int→Int→Option AV
 | 0=>fun _ _ _ _=>none
 | n+1=>qey ret k0 (qlJ ret k0 n) n
def qez (_n:Nat) (s4:List UInt8):Option AV :=
 qhB s4 (0:Int)
def qwU (n:Nat) (t0:List Int):Option AV :=
 qlJ qhB (qez n) n ([]:List UInt8) t0 (t0.length:Int) (0:Int)
def qgJ (s2:Int):Option AV:=some (dc s2)
def qcu (ret:Int→Option AV) (k0:Option AV) (next:List Int→Int→Int→Option AV) (_n:Nat) (s5:List Int) (s6:Int) (s7:Int):Option AV :=
 bif (decide (s7 < s6)) then
 bif ((decide (0≤s7))&&(decide (s7 < s5.length))) then
 bif (!(z107 (s5.getD s7.toNat 0))) then
 ret s7
 else
 next s5 s6 (IntKind.wrap .i64 (s7+1))
 else none
 else
 k0
def qgK (ret:Int→Option AV) (k0:Option AV):Nat→List Int→Int→Int→Option AV
 | 0=>fun _ _ _=>none
 | n+1=>qcu ret k0 (qgK ret k0 n) n
def qdH (_n:Nat):Option AV :=
 qgJ (-1:Int)
def qnW (n:Nat) (t0:List Int):Option AV :=
 qgK qgJ (qdH n) n t0 (t0.length:Int) (0:Int)
def qtj (s2:List UInt8) (s3:Int):Option AV:=some (.tup [(da s2),(dc s3)])
def qeA (k0:List UInt8→Option AV) (next:List UInt8→List Int→Int→Int→Option AV) (_n:Nat) (s4:List UInt8) (s15:List Int) (s16:Int) (s17:Int):Option AV :=
 bif (decide (s17 < s16)) then
 bif ((decide (0≤s17))&&(decide (s17 < s15.length))) then
 bif (decide (s4.length+List.length ([((z115 (s15.getD s17.toNat 0)).1)]:List UInt8)≤room)) then
 next (s4++([((z115 (s15.getD s17.toNat 0)).1)]:List UInt8)) s15 s16 (IntKind.wrap .i64 (s17+1))
 else none
 else none
 else
 k0 s4
def qlK (k0:List UInt8→Option AV):Nat→List UInt8→List Int→Int→Int→Option AV
 | 0=>fun _ _ _ _=>none
 | n+1=>qeA k0 (qlK k0 n) n
def qeB (_n:Nat) (s4:List UInt8):Option AV :=
 qtj s4 (0:Int)
def qwV (n:Nat) (t0:List Int):Option AV :=
 bif ((qmM t0)&&true) then
 bif (decide (0≤(z114 t0))) then
 qtj ([]:List UInt8) (9:Int)
 else
 bif (((decide (0≤(0:Int)))&&(decide (0≤(t0.length:Int))))&&(decide ((t0.length:Int)≤(room:Int)))) then
 qlK (qeB n) n (List.replicate (0:Int).toNat (0:UInt8)) t0 (t0.length:Int) (0:Int)
 else none
 else none
def qgL (s4:List UInt8) (s5:Int):Option AV:=some (.tup [(da s4),(dc s5)])
def qAP (_n:Nat) (charset0:Int) (t1:List Int):Option AV :=
 bif ((z74 charset0)==(0:Int)) then
 qgL ([]:List UInt8) (10:Int)
 else
 bif ((quQ charset0 t1)&&true) then
 bif (!(z75 charset0 t1)) then
 qgL ([]:List UInt8) (9:Int)
 else
 bif (charset0==(5:Int)) then
 bif ((quP t1)&&true) then
 qgL ((z76 t1).1) ((z76 t1).2)
 else none
 else
 bif (charset0==(3:Int)) then
 bif ((quN t1)&&true) then
 qgL ((z77 t1).1) ((z77 t1).2)
 else none
 else
 bif (charset0==(4:Int)) then
 bif ((quO t1)&&true) then
 qgL ((z78 t1).1) ((z78 t1).2)
 else none
 else
 bif ((qoI t1)&&true) then
 qgL ((z52 t1).1) ((z52 t1).2)
 else none
 else none
def qe (s2:Int):Option AV:=some (dc s2)
def qN:=(bits .or .i64 (bits .or .i64 (0:Int) (1:Int)) (656:Int))
def qbZ:=(bits .or .i64 (bits .or .i64 (0:Int) (1:Int)) (2:Int))
def qtk (_n:Nat) (c0:UInt8):Option AV :=
 bif (decide (c0 < (32:UInt8))) then bif (c0==(32:UInt8)) then qe (qbZ) else bif (c0==(9:UInt8)) then qe (qbZ) else bif (decide ((48:UInt8)≤c0)) then bif (decide (c0≤(57:UInt8))) then qe (bits .or .i64 (bits .or .i64 (0:Int) (1:Int)) (648:Int)) else bif (decide ((65:UInt8)≤c0)) then bif (decide (c0≤(90:UInt8))) then bif (decide (c0≤(90:UInt8))) then qe (qN) else qe (bits .or .i64 (0:Int) (1:Int)) else bif (decide ((97:UInt8)≤c0)) then bif (decide (c0≤(122:UInt8))) then qe (qN) else qe (bits .or .i64 (0:Int) (1:Int)) else qe (bits .or .i64 (0:Int) (1:Int)) else bif (decide ((97:UInt8)≤c0)) then bif (decide (c0≤(122:UInt8))) then qe (qN) else qe (bits .or .i64 (0:Int) (1:Int)) else qe (bits .or .i64 (0:Int) (1:Int)) else bif (decide ((65:UInt8)≤c0)) then bif (decide (c0≤(90:UInt8))) then bif (decide (c0≤(90:UInt8))) then qe (qN) else qe (bits .or .i64 (0:Int) (1:Int)) else bif (decide ((97:UInt8)≤c0)) then bif (decide (c0≤(122:UInt8))) then qe (qN) else qe (bits .or .i64 (0:Int) (1:Int)) else qe (bits .or .i64 (0:Int) (1:Int)) else bif (decide ((97:UInt8)≤c0)) then bif (decide (c0≤(122:UInt8))) then qe (qN) else qe (bits .or .i64 (0:Int) (1:Int)) else qe (bits .or .i64 (0:Int) (1:Int)) else bif (c0==(127:UInt8)) then bif (c0==(32:UInt8)) then qe (qbZ) else bif (c0==(9:UInt8)) then qe (qbZ) else bif (decide ((48:UInt8)≤c0)) then bif (decide (c0≤(57:UInt8))) then qe (bits .or .i64 (bits .or .i64 (0:Int) (1:Int)) (648:Int)) else bif (decide ((65:UInt8)≤c0)) then bif (decide (c0≤(90:UInt8))) then bif (decide (c0≤(90:UInt8))) then qe (qN) else qe (bits .or .i64 (0:Int) (1:Int)) else bif (decide ((97:UInt8)≤c0)) then bif (decide (c0≤(122:UInt8))) then qe (qN) else qe (bits .or .i64 (0:Int) (1:Int)) else qe (bits .or .i64 (0:Int) (1:Int)) else bif (decide ((97:UInt8)≤c0)) then bif (decide (c0≤(122:UInt8))) then qe (qN) else qe (bits .or .i64 (0:Int) (1:Int)) else qe (bits .or .i64 (0:Int) (1:Int)) else bif (decide ((65:UInt8)≤c0)) then bif (decide (c0≤(90:UInt8))) then bif (decide (c0≤(90:UInt8))) then qe (qN) else qe (bits .or .i64 (0:Int) (1:Int)) else bif (decide ((97:UInt8)≤c0)) then bif (decide (c0≤(122:UInt8))) then qe (qN) else qe (bits .or .i64 (0:Int) (1:Int)) else qe (bits .or .i64 (0:Int) (1:Int)) else bif (decide ((97:UInt8)≤c0)) then bif (decide (c0≤(122:UInt8))) then qe (qN) else qe (bits .or .i64 (0:Int) (1:Int)) else qe (bits .or .i64 (0:Int) (1:Int)) else bif (c0==(32:UInt8)) then qe (bits .or .i64 (0:Int) (2:Int)) else bif (c0==(9:UInt8)) then qe (bits .or .i64 (0:Int) (2:Int)) else bif (decide ((48:UInt8)≤c0)) then bif (decide (c0≤(57:UInt8))) then qe (bits .or .i64 (0:Int) (648:Int)) else bif (decide ((65:UInt8)≤c0)) then bif (decide (c0≤(90:UInt8))) then bif (decide (c0≤(90:UInt8))) then qe (bits .or .i64 (0:Int) (656:Int)) else qe (0:Int) else bif (decide ((97:UInt8)≤c0)) then bif (decide (c0≤(122:UInt8))) then qe (bits .or .i64 (0:Int) (656:Int)) else qe (0:Int) else qe (0:Int) else bif (decide ((97:UInt8)≤c0)) then bif (decide (c0≤(122:UInt8))) then qe (bits .or .i64 (0:Int) (656:Int)) else qe (0:Int) else qe (0:Int) else bif (decide ((65:UInt8)≤c0)) then bif (decide (c0≤(90:UInt8))) then bif (decide (c0≤(90:UInt8))) then qe (bits .or .i64 (0:Int) (656:Int)) else qe (0:Int) else bif (decide ((97:UInt8)≤c0)) then bif (decide (c0≤(122:UInt8))) then qe (bits .or .i64 (0:Int) (656:Int)) else qe (0:Int) else qe (0:Int) else bif (decide ((97:UInt8)≤c0)) then bif (decide (c0≤(122:UInt8))) then qe (bits .or .i64 (0:Int) (656:Int)) else qe (0:Int) else qe (0:Int)
def qtl (s4:Int):Option AV:=some (dc s4)
def qyn (_n:Nat) (s0:List UInt8) (c1:UInt8):Option AV :=
 qtl (z146 s0 c1)
def qtm (s4:Int):Option AV:=some (dc s4)
def qyo (_n:Nat) (s0:List UInt8) (c1:UInt8):Option AV :=
 qtm (z145 s0 c1)
def qtn (s4:Bool):Option AV:=some (dg s4)
def qyp (_n:Nat) (s0:List UInt8) (c1:UInt8):Option AV :=
 qtn (decide (0≤(z140 s0 c1)))
def qah (s2:Int):Option AV:=some (dc s2)
def qaB (c0:UInt8):=(bits .or .i64 (z134 c0) (4:Int))
def qca (c0:UInt8):=(z135 ([40,41,60,62,64,44,59,58,92,34,47,91,93,63,61]:List UInt8) c0)
def qbc (c0:UInt8):=(bits .or .i64 (qaB c0) (128:Int))
def qto (_n:Nat) (c0:UInt8):Option AV :=
 bif (decide (c0 < (33:UInt8))) then qah (z134 c0) else bif (decide ((126:UInt8) < c0)) then qah (z134 c0) else bif (z135 ([33,42,43,45,47]:List UInt8) c0) then bif (z135 ([43,47]:List UInt8) c0) then bif (qca c0) then qah (bits .or .i64 (bits .or .i64 (qbc c0) (512:Int)) (32:Int)) else bif (!(z135 ([42,39,37]:List UInt8) c0)) then qah (bits .or .i64 (bits .or .i64 (bits .or .i64 (qbc c0) (512:Int)) (64:Int)) (256:Int)) else qah (bits .or .i64 (bits .or .i64 (qbc c0) (512:Int)) (64:Int)) else bif (qca c0) then qah (bits .or .i64 (qbc c0) (32:Int)) else bif (!(z135 ([42,39,37]:List UInt8) c0)) then qah (bits .or .i64 (bits .or .i64 (qbc c0) (64:Int)) (256:Int)) else qah (bits .or .i64 (qbc c0) (64:Int)) else bif (z135 ([43,47]:List UInt8) c0) then bif (qca c0) then qah (bits .or .i64 (bits .or .i64 (qaB c0) (512:Int)) (32:Int)) else bif (!(z135 ([42,39,37]:List UInt8) c0)) then qah (bits .or .i64 (bits .or .i64 (bits .or .i64 (qaB c0) (512:Int)) (64:Int)) (256:Int)) else qah (bits .or .i64 (bits .or .i64 (qaB c0) (512:Int)) (64:Int)) else bif (qca c0) then qah (bits .or .i64 (qaB c0) (32:Int)) else bif (!(z135 ([42,39,37]:List UInt8) c0)) then qah (bits .or .i64 (bits .or .i64 (qaB c0) (64:Int)) (256:Int)) else qah (bits .or .i64 (qaB c0) (64:Int))
def qtp (s4:Bool):Option AV:=some (dg s4)
def qyq (_n:Nat) (c0:UInt8) (kinds1:Int):Option AV :=
 qtp ((bits .and .i64 (z125 c0) kinds1) != (0:Int))
def qtq (s2:Int):Option AV:=some (dc s2)
def qAQ (_n:Nat) (c0:UInt8):Option AV :=
 bif (z100 c0 (256:Int)) then
 qtq (1:Int)
 else
 qtq (3:Int)
def qtr (s2:UInt8):Option AV:=some (dm s2 none)
def qts (_n:Nat) (n0:Int):Option AV :=
 bif ((decide (0≤(bits .and .i64 n0 (15:Int))))&&(decide ((bits .and .i64 n0 (15:Int)) < ([48,49,50,51,52,53,54,55,56,57,65,66,67,68,69,70]:List UInt8).length))) then
 qtr (([48,49,50,51,52,53,54,55,56,57,65,66,67,68,69,70]:List UInt8).getD (bits .and .i64 n0 (15:Int)).toNat (0:UInt8))
 else none
def qtt (s2:List UInt8):Option AV:=some (db s2 (some (2,5)))
def qtu (_n:Nat) (c0:UInt8):Option AV :=
 bif ((qcH (IntKind.wrap .i64 ((UInt8.toNat (UInt8.ofNat (UInt8.toNat c0 / 2 ^ (min (4:Int).toNat 8))):Nat):Int)))&&true) then
 bif ((qcH (IntKind.wrap .i64 ((UInt8.toNat c0:Nat):Int)))&&true) then
 qtt ([(z132 (IntKind.wrap .i64 ((UInt8.toNat (UInt8.ofNat (UInt8.toNat c0 / 2 ^ (min (4:Int).toNat 8))):Nat):Int))),(z132 (IntKind.wrap .i64 ((UInt8.toNat c0:Nat):Int)))]:List UInt8)
 else none
 else none
def qyr (s6:List UInt8):Option AV:=some (db s6 (some (6,5)))
def qAR (_n:Nat) (b0:List UInt8) (sign1:UInt8) (c2:UInt8):Option AV :=
 bif ((qgt b0)&&true) then
 bif (decide (List.length (z53 b0)+List.length ([sign1]:List UInt8)≤room)) then
 bif (decide (List.length ((z53 b0)++([sign1]:List UInt8))+List.length (z116 c2)≤room)) then
 qyr (((z53 b0)++([sign1]:List UInt8))++(z116 c2))
 else none
 else none
 else none
def qys (s2:List UInt8):Option AV:=some (db s2 (some (2,5)))
def qeC (k0:List UInt8→Option AV) (next:List UInt8→List UInt8→Int→Int→Option AV) (_n:Nat) (out3:List UInt8) (s6:List UInt8) (s7:Int) (s8:Int):Option AV :=
 bif (decide (s8 < s7)) then
 bif ((decide (0≤s8))&&(decide (s8 < s6.length))) then
 bif ((z79 (s6.getD s8.toNat (0:UInt8)))==(1:Int)) then
 bif (decide (out3.length+List.length ([(s6.getD s8.toNat (0:UInt8))]:List UInt8)≤room)) then
 next (out3++([(s6.getD s8.toNat (0:UInt8))]:List UInt8)) s6 s7 (IntKind.wrap .i64 (s8+1))
 else none
 else
 bif ((quK out3 (37:UInt8) (s6.getD s8.toNat (0:UInt8)))&&true) then
 next (z80 out3 (37:UInt8) (s6.getD s8.toNat (0:UInt8))) s6 s7 (IntKind.wrap .i64 (s8+1))
 else none
 else none
 else
 k0 out3
def qlL (k0:List UInt8→Option AV):Nat→List UInt8→List UInt8→Int→Int→Option AV
 | 0=>fun _ _ _ _=>none
 | n+1=>qeC k0 (qlL k0 n) n
def qeD (_n:Nat) (out3:List UInt8):Option AV :=
 qys out3
def qwW (n:Nat) (s0:List UInt8):Option AV :=
 qlL (qeD n) n ([]:List UInt8) s0 (s0.length:Int) (0:Int)
def qyt (s4:List (List UInt8)):Option AV:=some (.dat (.sl (.sl .byte)) s4 (some (4,22)))
def qaM (t1:List Int) (s11:Int):=(List.drop s11.toNat (List.take (IntKind.wrap .i64 (s11+1)).toNat t1))
def qeE (k0:List (List UInt8)→Option AV) (next:Int→List Int→List (List UInt8)→Int→Int→Option AV) (_n:Nat) (charset0:Int) (t1:List Int) (l5:List (List UInt8)) (s10:Int) (s11:Int):Option AV :=
 bif (decide (s11 < s10)) then bif (((decide (0≤s11))&&(decide (s11≤(IntKind.wrap .i64 (s11+1)))))&&(decide ((IntKind.wrap .i64 (s11+1))≤(t1.length:Int)))) then bif ((quR charset0 (qaM t1 s11))&&true) then bif ((qwm ((z44 charset0 (qaM t1 s11)).1))&&true) then bif (decide (l5.length+List.length ([(z45 ((z44 charset0 (qaM t1 s11)).1))]:List (List UInt8))≤room)) then next charset0 t1 (l5++([(z45 ((z44 charset0 (qaM t1 s11)).1))]:List (List UInt8))) s10 (IntKind.wrap .i64 (s11+1)) else none else none else none else none else k0 l5
def qlM (k0:List (List UInt8)→Option AV):Nat→Int→List Int→List (List UInt8)→Int→Int→Option AV
 | 0=>fun _ _ _ _ _=>none
 | n+1=>qeE k0 (qlM k0 n) n
def qeF (_n:Nat) (l5:List (List UInt8)):Option AV :=
 qyt l5
def qwX (n:Nat) (charset0:Int) (t1:List Int):Option AV :=
 qlM (qeF n) n charset0 t1 ([]:List (List UInt8)) (t1.length:Int) (0:Int)
def qyu (s4:Int):Option AV:=some (dc s4)
def qeG (k0:Int→Option AV) (next:Int→Int→List UInt8→Int→Int→Option AV) (_n:Nat) (kinds1:Int) (n5:Int) (s8:List UInt8) (s9:Int) (s10:Int):Option AV :=
 bif (decide (s10 < s9)) then
 bif ((decide (0≤s10))&&(decide (s10 < s8.length))) then
 bif (z100 (s8.getD s10.toNat (0:UInt8)) kinds1) then
 next kinds1 (IntKind.wrap .i64 (n5+1)) s8 s9 (IntKind.wrap .i64 (s10+1))
 else
 next kinds1 n5 s8 s9 (IntKind.wrap .i64 (s10+1))
 else none
 else
 k0 n5
def qiY (k0:Int→Option AV):Nat→Int→Int→List UInt8→Int→Int→Option AV
 | 0=>fun _ _ _ _ _=>none
 | n+1=>qeG k0 (qiY k0 n) n
def qgM (_n:Nat) (n5:Int):Option AV :=
 qyu n5
def qwY (n:Nat) (s0:List UInt8) (kinds1:Int):Option AV :=
 qiY (qgM n) n kinds1 (0:Int) s0 (s0.length:Int) (0:Int)
def qtv (s4:Bool):Option AV:=some (dg s4)
def qAS (_n:Nat) (s0:List UInt8) (kinds1:Int):Option AV :=
 bif ((quT s0 kinds1)&&true) then
 qtv ((z64 s0 kinds1)==(s0.length:Int))
 else none
def qnX (s2:Bool):Option AV:=some (dg s2)
def qAT (_n:Nat) (name0:List UInt8):Option AV :=
 bif (decide ((0:Int) < (name0.length:Int))) then
 bif (decide ((name0.length:Int)≤(30:Int))) then
 bif ((qoK name0 (256:Int))&&true) then
 qnX (z36 name0 (256:Int))
 else none
 else
 qnX false
 else
 qnX false
def qyv (s4:Bool):Option AV:=some (dg s4)
def qAU (_n:Nat) (s0:List Int) (v1:Int):Option AV :=
 bif ((qoG s0 v1)&&true) then
 qyv (decide (0≤(z89 s0 v1)))
 else none
def qkB (s4:Int):Option AV:=some (dc s4)
def qAV (_n:Nat) (name0:List UInt8) (t1:List Int):Option AV :=
 bif ((qwq name0)&&true) then
 bif (!(z18 name0)) then
 qkB (13:Int)
 else
 bif ((qoH t1)&&true) then
 bif (!(z49 t1)) then
 qkB (7:Int)
 else
 bif ((qwr t1 (0:Int))&&true) then
 bif (z50 t1 (0:Int)) then
 qkB (8:Int)
 else
 qkB (0:Int)
 else none
 else none
 else none
def qyw (s4:Bool):Option AV:=some (dg s4)
def qAW (_n:Nat) (s0:List Int):Option AV :=
 bif ((qcI s0)&&true) then
 qyw (decide (0≤(qo s0)))
 else none
def qyx (s2:Bool):Option AV:=some (dg s2)
def qAX (_n:Nat) (t0:List Int):Option AV :=
 bif ((qws t0)&&true) then
 qyx (!(z90 t0))
 else none
def qtw (s2:Bool):Option AV:=some (dg s2)
def qAY (_n:Nat) (s0:List UInt8):Option AV :=
 bif (decide ((0:Int) < (s0.length:Int))) then
 bif ((qoK s0 (64:Int))&&true) then
 qtw (z36 s0 (64:Int))
 else none
 else
 qtw false
def qyy (s2:List UInt8):Option AV:=some (db s2 (some (2,5)))
def qS (s7:List UInt8) (s9:Int):=([(s7.getD s9.toNat (0:UInt8))]:List UInt8)
def qeH (k0:List UInt8→Option AV) (next:List UInt8→List UInt8→Int→Int→Option AV) (_n:Nat) (out3:List UInt8) (s7:List UInt8) (s8:Int) (s9:Int):Option AV :=
 bif (decide (s9 < s8)) then bif ((decide (0≤s9))&&(decide (s9 < s7.length))) then bif ((s7.getD s9.toNat (0:UInt8))==(34:UInt8)) then bif ((s7.getD s9.toNat (0:UInt8))==(34:UInt8)) then bif (decide (out3.length+List.length ([(92:UInt8)]:List UInt8)≤room)) then bif (decide (List.length (out3++([(92:UInt8)]:List UInt8))+List.length (qS s7 s9)≤room)) then next ((out3++([(92:UInt8)]:List UInt8))++(qS s7 s9)) s7 s8 (IntKind.wrap .i64 (s9+1)) else none else none else bif (decide (out3.length+List.length (qS s7 s9)≤room)) then next (out3++(qS s7 s9)) s7 s8 (IntKind.wrap .i64 (s9+1)) else none else bif ((s7.getD s9.toNat (0:UInt8))==(92:UInt8)) then bif (decide (out3.length+List.length ([(92:UInt8)]:List UInt8)≤room)) then bif (decide (List.length (out3++([(92:UInt8)]:List UInt8))+List.length (qS s7 s9)≤room)) then next ((out3++([(92:UInt8)]:List UInt8))++(qS s7 s9)) s7 s8 (IntKind.wrap .i64 (s9+1)) else none else none else bif (decide (out3.length+List.length (qS s7 s9)≤room)) then next (out3++(qS s7 s9)) s7 s8 (IntKind.wrap .i64 (s9+1)) else none else none else k0 out3
def qlN (k0:List UInt8→Option AV):Nat→List UInt8→List UInt8→Int→Int→Option AV
 | 0=>fun _ _ _ _=>none
 | n+1=>qeH k0 (qlN k0 n) n
def qcV (_n:Nat) (out3:List UInt8):Option AV :=
 bif (decide (out3.length+List.length ([(34:UInt8)]:List UInt8)≤room)) then
 qyy (out3++([(34:UInt8)]:List UInt8))
 else none
def qwZ (n:Nat) (s0:List UInt8):Option AV :=
 qlN (qcV n) n ([(34:UInt8)]:List UInt8) s0 (s0.length:Int) (0:Int)
def qtx (s2:List UInt8):Option AV:=some (db s2 (some (2,5)))
def qAZ (_n:Nat) (s0:List UInt8):Option AV :=
 bif ((qwo s0)&&true) then
 bif (z93 s0) then
 bif ((qgt s0)&&true) then
 qtx (z53 s0)
 else none
 else
 bif ((qwn s0)&&true) then
 qtx (z94 s0)
 else none
 else none
def qty (s4:List UInt8) (s5:Bool):Option AV:=some (.tup [(da s4),(dg s5)])
def qBa (_n:Nat) (name0:List UInt8) (t1:List Int):Option AV :=
 bif ((qwt t1)&&true) then
 bif (!(z51 t1)) then
 qty ([]:List UInt8) false
 else
 bif ((qoI t1)&&true) then
 bif ((qgt name0)&&true) then
 bif (decide (List.length (z53 name0)+List.length ([(61:UInt8)]:List UInt8)≤room)) then
 bif ((qwp ((z52 t1).1))&&true) then
 bif (decide (List.length ((z53 name0)++([(61:UInt8)]:List UInt8))+List.length (z54 ((z52 t1).1))≤room)) then
 qty (((z53 name0)++([(61:UInt8)]:List UInt8))++(z54 ((z52 t1).1))) (decide (((((z53 name0)++([(61:UInt8)]:List UInt8))++(z54 ((z52 t1).1))).length:Int)≤(74:Int)))
 else none
 else none
 else none
 else none
 else none
 else none
def qeI (s2:List UInt8):Option AV:=some (df s2 none)
def qgN:=([48,48,48,49,48,50,48,51,48,52,48,53,48,54,48,55,48,56,48,57,49,48,49,49,49,50,49,51,49,52,49,53,49,54,49,55,49,56,49,57,50,48,50,49,50,50,50,51,50,52,50,53,50,54,50,55,50,56,50,57,51,48,51,49,51,50,51,51,51,52,51,53,51,54,51,55,51,56,51,57,52,48,52,49,52,50,52,51,52,52,52,53,52,54,52,55,52,56,52,57,53,48,53,49,53,50,53,51,53,52,53,53,53,54,53,55,53,56,53,57,54,48,54,49,54,50,54,51,54,52,54,53,54,54,54,55,54,56,54,57,55,48,55,49,55,50,55,51,55,52,55,53,55,54,55,55,55,56,55,57,56,48,56,49,56,50,56,51,56,52,56,53,56,54,56,55,56,56,56,57,57,48,57,49,57,50,57,51,57,52,57,53,57,54,57,55,57,56,57,57]:List UInt8)
def qgO:=([48,49,50,51,52,53,54,55,56,57,97,98,99,100,101,102,103,104,105,106,107,108,109,110,111,112,113,114,115,116,117,118,119,120,121,122]:List UInt8)
def qdI (i0:Int):=(IntKind.wrap .i64 ((IntKind.wrap .i64 (i0*(2:Int)))+(2:Int)))
def qhC (_n:Nat) (i0:Int):Option AV :=
 bif (decide (i0 < (10:Int))) then bif (((decide (0≤i0))&&(decide (i0≤(IntKind.wrap .i64 (i0+1)))))&&(decide ((IntKind.wrap .i64 (i0+1))≤((qgO).length:Int)))) then qeI (List.drop i0.toNat (List.take (IntKind.wrap .i64 (i0+1)).toNat (qgO))) else none else bif (((decide (0≤(IntKind.wrap .i64 (i0*(2:Int)))))&&(decide ((IntKind.wrap .i64 (i0*(2:Int)))≤(qdI i0))))&&(decide ((qdI i0)≤((qgN).length:Int)))) then qeI (List.drop (IntKind.wrap .i64 (i0*(2:Int))).toNat (List.take (qdI i0).toNat (qgN))) else none
def qtz (s6:List UInt8):Option AV:=some (db s6 (some (6,5)))
def qtA (_n:Nat) (dst0:List UInt8) (i1:Int) (base2:Int):Option AV :=
 bif (base2==(10:Int)) then
 bif (decide (i1 < (100:Int))) then
 bif ((qnE (IntKind.wrap .i64 i1))&&true) then
 bif (decide (dst0.length+List.length (z136 (IntKind.wrap .i64 i1))≤room)) then
 qtz (dst0++(z136 (IntKind.wrap .i64 i1)))
 else none
 else none
 else
 none
 else
 none
def qlO (s6:List UInt8):Option AV:=some (db s6 (some (6,5)))
def qtB (_n:Nat) (dst0:List UInt8) (i1:Int) (base2:Int):Option AV :=
 bif (decide (i1 < (0:Int))) then
 bif (decide (dst0.length+List.length ([(45:UInt8)]:List UInt8)≤room)) then
 bif (qhx (dst0++([(45:UInt8)]:List UInt8)) (IntKind.wrap .u64 (0 - (IntKind.wrap .u64 i1))) base2) then
 qlO (z133 (dst0++([(45:UInt8)]:List UInt8)) (IntKind.wrap .u64 (0 - (IntKind.wrap .u64 i1))) base2)
 else none
 else none
 else
 bif (qhx dst0 (IntKind.wrap .u64 i1) base2) then
 qlO (z133 dst0 (IntKind.wrap .u64 i1) base2)
 else none
def qyz (s6:List UInt8):Option AV:=some (db s6 (some (6,5)))
def qBb (_n:Nat) (dst0:List UInt8) (i1:Int) (base2:Int):Option AV :=
 bif (qkr dst0 i1 base2) then
 qyz (z123 dst0 i1 base2)
 else none
def qkC (s2:List UInt8):Option AV:=some (db s2 (some (2,5)))
def qcv (p0:(List UInt8)×(Int×(Bool×((List UInt8)×Unit)))):=((z53 p0.1)++([(42:UInt8)]:List UInt8))
def qBc (_n:Nat) (p0:(List UInt8)×(Int×(Bool×((List UInt8)×Unit)))):Option AV :=
 bif ((qgt p0.1)&&true) then bif (decide (0≤p0.2.1)) then bif (decide (List.length (z53 p0.1)+List.length ([(42:UInt8)]:List UInt8)≤room)) then bif (qse (qcv p0) p0.2.1 (10:Int)) then bif p0.2.2.1 then bif (decide (List.length (z95 (qcv p0) p0.2.1 (10:Int))+List.length ([(42:UInt8)]:List UInt8)≤room)) then qkC ((z95 (qcv p0) p0.2.1 (10:Int))++([(42:UInt8)]:List UInt8)) else none else qkC (z95 (qcv p0) p0.2.1 (10:Int)) else none else none else bif p0.2.2.1 then bif (decide (List.length (z53 p0.1)+List.length ([(42:UInt8)]:List UInt8)≤room)) then qkC (qcv p0) else none else qkC (z53 p0.1) else none
def qgP (s2:List (List UInt8)):Option AV:=some (.dat (.sl .str) s2 (some (2,9)))
def qBd (_n:Nat) (charset0:Int):Option AV :=
 bif (charset0==(1:Int)) then
 qgP ([([117,115,45,97,115,99,105,105]:List UInt8),([97,115,99,105,105]:List UInt8),([97,110,115,105,95,120,51,46,52,45,49,57,54,56]:List UInt8),([105,115,111,54,52,54,45,117,115]:List UInt8)]:List (List UInt8))
 else
 bif (charset0==(2:Int)) then
 qgP ([([105,115,111,45,56,56,53,57,45,49]:List UInt8),([105,115,111,95,56,56,53,57,45,49]:List UInt8),([108,97,116,105,110,49]:List UInt8),([108,49]:List UInt8)]:List (List UInt8))
 else
 bif (charset0==(3:Int)) then
 qgP ([([105,115,111,45,56,56,53,57,45,49,53]:List UInt8),([105,115,111,95,56,56,53,57,45,49,53]:List UInt8),([108,97,116,105,110,45,57]:List UInt8)]:List (List UInt8))
 else
 bif (charset0==(4:Int)) then
 qgP ([([119,105,110,100,111,119,115,45,49,50,53,50]:List UInt8),([99,112,49,50,53,50]:List UInt8)]:List (List UInt8))
 else
 bif (charset0==(5:Int)) then
 qgP ([([117,116,102,45,56]:List UInt8),([117,116,102,56]:List UInt8)]:List (List UInt8))
 else
 qgP ([]:List (List UInt8))
def qtC (s2:List UInt8):Option AV:=some (df s2 none)
def qBe (_n:Nat) (charset0:Int):Option AV :=
 bif (((z96 charset0).length:Int)==(0:Int)) then
 qtC ([]:List UInt8)
 else
 bif ((decide (0≤(0:Int)))&&(decide ((0:Int) < (z96 charset0).length))) then
 qtC ((z96 charset0).getD (0:Int).toNat ([]:List UInt8))
 else none
def qtD (s6:List UInt8):Option AV:=some (db s6 (some (6,5)))
def qdJ (name0:List UInt8) (n1:Int):=((z55 (name0,(n1,(true,(([]:List UInt8),())))))++([(61:UInt8)]:List UInt8))
def qBf (_n:Nat) (name0:List UInt8) (n1:Int) (charset2:Int):Option AV :=
 bif ((qsf (name0,(n1,(true,(([]:List UInt8),())))))&&true) then bif (decide (List.length (z55 (name0,(n1,(true,(([]:List UInt8),())))))+List.length ([(61:UInt8)]:List UInt8)≤room)) then bif (decide ((0:Int) < n1)) then qtD (qdJ name0 n1) else bif (decide (List.length (qdJ name0 n1)+List.length (z56 charset2)≤room)) then bif (decide (List.length ((qdJ name0 n1)++(z56 charset2))+List.length ([39,39]:List UInt8)≤room)) then qtD (((qdJ name0 n1)++(z56 charset2))++([39,39]:List UInt8)) else none else none else none else none
def qnY (s30:Bool) (s31:List UInt8) (s32:List (List UInt8)) (s33:List UInt8) (s34:Int):Option AV:=some (.tup [(.tup []),.bad,(.pbox (.leaf .bool) s30 none),(.pbox (.osl 5 .byte) s31 none),(.pbox (.psl 22 (.osl 5 .byte)) s32 none),(.pbox (.leaf (.sl .byte)) s33 none),(.pbox (.leaf (.int .i64)) s34 none)])
def qBg (_n:Nat) (u0:List UInt8) (x1:Bool) (x2:List UInt8) (x3:List (List UInt8)) (x4:List UInt8) (x5:Int):Option AV :=
 bif (!x1) then
 bif (decide ((74:Int) < (IntKind.wrap .i64 ((x2.length:Int)+(u0.length:Int))))) then
 bif (decide (x3.length+List.length ([x2]:List (List UInt8))≤room)) then
 bif ((qfr x4 ((x3++([x2]:List (List UInt8))).length:Int) x5)&&true) then
 bif (decide (List.length (z29 x4 ((x3++([x2]:List (List UInt8))).length:Int) x5)+u0.length≤room)) then
 qnY false ((z29 x4 ((x3++([x2]:List (List UInt8))).length:Int) x5)++u0) (x3++([x2]:List (List UInt8))) x4 x5
 else none
 else none
 else none
 else
 bif (decide (x2.length+u0.length≤room)) then
 qnY false (x2++u0) x3 x4 x5
 else none
 else
 bif (decide (x2.length+u0.length≤room)) then
 qnY false (x2++u0) x3 x4 x5
 else none
def qyA (s6:List (List UInt8)):Option AV:=some (.dat (.sl (.sl .byte)) s6 none)
def qai (s17:List (List UInt8)) (s19:Int):=(s17.getD s19.toNat ([]:List UInt8))
def qeJ (k0:List (List UInt8)→List UInt8→Option AV) (next:List UInt8→Int→List (List UInt8)→List UInt8→Bool→List (List UInt8)→Int→Int→Option AV) (_n:Nat) (name3:List UInt8) (charset4:Int) (out7:List (List UInt8)) (now8:List UInt8) (empty9:Bool) (s17:List (List UInt8)) (s18:Int) (s19:Int):Option AV :=
 bif (decide (s19 < s18)) then bif ((decide (0≤s19))&&(decide (s19 < s17.length))) then bif (qpq (qai s17 s19) empty9 now8 out7 name3 charset4) then next ((z58 (qai s17 s19) empty9 now8 out7 name3 charset4).2.2.2.1) ((z58 (qai s17 s19) empty9 now8 out7 name3 charset4).2.2.2.2) ((z58 (qai s17 s19) empty9 now8 out7 name3 charset4).2.2.1) ((z58 (qai s17 s19) empty9 now8 out7 name3 charset4).2.1) ((z58 (qai s17 s19) empty9 now8 out7 name3 charset4).1) s17 s18 (IntKind.wrap .i64 (s19+1)) else none else none else k0 out7 now8
def qlP (k0:List (List UInt8)→List UInt8→Option AV):Nat→List UInt8→Int→List (List UInt8)→List UInt8→Bool→List (List UInt8)→Int→Int→Option AV
 | 0=>fun _ _ _ _ _ _ _ _=>none
 | n+1=>qeJ k0 (qlP k0 n) n
def qeK (_n:Nat) (out7:List (List UInt8)) (now8:List UInt8):Option AV :=
 bif (decide (out7.length+List.length ([now8]:List (List UInt8))≤room)) then
 qyA (out7++([now8]:List (List UInt8)))
 else none
def qxa (n:Nat) (name0:List UInt8) (charset1:Int) (l2:List (List UInt8)):Option AV :=
 bif ((qfr name0 (0:Int) charset1)&&true) then
 qlP (qeK n) n name0 charset1 ([]:List (List UInt8)) (z29 name0 (0:Int) charset1) true l2 (l2.length:Int) (0:Int)
 else none
def qhD (s4:List (List UInt8)) (s5:Int):Option AV:=some (.tup [(.dat (.sl (.sl .byte)) s4 none),(dc s5)])
def qfK (t1:List Int):=(z30 (z23 ((z22 t1).1) t1) ([]:List UInt8))
def qBh (_n:Nat) (name0:List UInt8) (t1:List Int):Option AV :=
 bif ((qiK name0 t1)&&true) then bif ((z27 name0 t1) != (0:Int)) then qhD ([]:List (List UInt8)) (z27 name0 t1) else bif ((qks name0 t1)&&true) then bif ((z28 name0 t1).2) then qhD ([((z28 name0 t1).1)]:List (List UInt8)) (0:Int) else bif ((quG t1)&&true) then bif (((z22 t1).2) != (0:Int)) then qhD ([]:List (List UInt8)) ((z22 t1).2) else bif ((qwu ((z22 t1).1) t1)&&true) then bif ((qfr name0 (-1:Int) ((z22 t1).1))&&true) then bif ((qoF (z23 ((z22 t1).1) t1) ([]:List UInt8))&&true) then bif (decide (List.length (z29 name0 (-1:Int) ((z22 t1).1))+List.length (qfK t1)≤room)) then bif (decide ((((z29 name0 (-1:Int) ((z22 t1).1))++(qfK t1)).length:Int)≤(74:Int))) then qhD ([((z29 name0 (-1:Int) ((z22 t1).1))++(qfK t1))]:List (List UInt8)) (0:Int) else bif ((qpr name0 ((z22 t1).1) (z23 ((z22 t1).1) t1))&&true) then qhD (z31 name0 ((z22 t1).1) (z23 ((z22 t1).1) t1)) (0:Int) else none else none else none else none else none else none else none else none
def qER (s4:List UInt8) (s5:Int):Option AV:=some (.tup [(da s4),(dc s5)])
def qhE (k0:Int→List UInt8→Option AV) (next:Int→List UInt8→List (List UInt8)→Int→Int→Option AV) (_n:Nat) (e7:Int) (out8:List UInt8) (s17:List (List UInt8)) (s18:Int) (s19:Int):Option AV :=
 bif (decide (s19 < s18)) then
 bif ((decide (0≤s19))&&(decide (s19 < s17.length))) then
 bif (decide (out8.length+List.length ([59,13,10,32]:List UInt8)≤room)) then
 bif (decide (List.length (out8++([59,13,10,32]:List UInt8))+List.length (s17.getD s19.toNat ([]:List UInt8))≤room)) then
 next e7 ((out8++([59,13,10,32]:List UInt8))++(s17.getD s19.toNat ([]:List UInt8))) s17 s18 (IntKind.wrap .i64 (s19+1))
 else none
 else none
 else none
 else
 k0 e7 out8
def z7_l4 (k0:Int→List UInt8→Option AV):Nat→Int→List UInt8→List (List UInt8)→Int→Int→Option AV
 | 0=>fun _ _ _ _ _=>none
 | n+1=>qhE k0 (z7_l4 k0 n) n
def qhF (_n:Nat) (e7:Int) (out8:List UInt8):Option AV :=
 qER out8 e7
def z7_sh (n:Nat) (name0:List UInt8) (t1:List Int):Option AV :=
 bif ((qkt name0 t1)&&true) then
 z7_l4 (qhF n) n ((z13 name0 t1).2) ([]:List UInt8) ((z13 name0 t1).1) (((z13 name0 t1).1).length:Int) (0:Int)
 else none
def qlQ (s0:Bool):Option AV:=some (dg s0)
def qiZ:=(z13 ([(97:UInt8)]:List UInt8) ([(233:Int)]:List Int))
def z6_sh (_n:Nat):Option AV :=
 bif ((qkt ([(97:UInt8)]:List UInt8) ([(233:Int)]:List Int))&&true) then bif ((z7_ok ([(97:UInt8)]:List UInt8) ([(120:Int),(32:Int)]:List Int))&&true) then bif ((qkt ([(97:UInt8),(32:UInt8),(98:UInt8)]:List UInt8) ([]:List Int))&&true) then bif ((((qiZ).1).length:Int)==(1:Int)) then bif ((decide (0≤(0:Int)))&&(decide ((0:Int) < ((qiZ).1).length))) then bif ((((qiZ).1).getD (0:Int).toNat ([]:List UInt8))==([97,42,61,105,115,111,45,56,56,53,57,45,49,39,39,37,69,57]:List UInt8)) then bif (((qiZ).2)==(0:Int)) then bif (((z7 ([(97:UInt8)]:List UInt8) ([(120:Int),(32:Int)]:List Int)).1)==([59,13,10,32,97,61,34,120,32,34]:List UInt8)) then bif (((z7 ([(97:UInt8)]:List UInt8) ([(120:Int),(32:Int)]:List Int)).2)==(0:Int)) then qlQ (((z13 ([(97:UInt8),(32:UInt8),(98:UInt8)]:List UInt8) ([]:List Int)).2)==(13:Int)) else qlQ false else qlQ false else qlQ false else qlQ false else none else qlQ false else none else none else none
def qhG (s4:Bool):Option AV:=some (dg s4)
def qeL (ret:Bool→Option AV) (k0:Option AV) (next:List UInt8→List UInt8→Int→Option AV) (_n:Nat) (a0:List UInt8) (b1:List UInt8) (i5:Int):Option AV :=
 bif (decide (i5 < (a0.length:Int))) then
 bif ((decide (0≤i5))&&(decide (i5 < a0.length))) then
 bif ((decide (0≤i5))&&(decide (i5 < b1.length))) then
 bif ((a0.getD i5.toNat (0:UInt8)) != (b1.getD i5.toNat (0:UInt8))) then
 ret false
 else
 next a0 b1 (IntKind.wrap .i64 (i5+1))
 else none
 else none
 else
 k0
def qja (ret:Bool→Option AV) (k0:Option AV):Nat→List UInt8→List UInt8→Int→Option AV
 | 0=>fun _ _ _=>none
 | n+1=>qeL ret k0 (qja ret k0 n) n
def qjb (_n:Nat):Option AV :=
 qhG true
def qxb (n:Nat) (a0:List UInt8) (b1:List UInt8):Option AV :=
 bif ((a0.length:Int) != (b1.length:Int)) then
 qhG false
 else
 qja qhG (qjb n) n a0 b1 (0:Int)
def qyB (s4:Int):Option AV:=some (dc s4)
def qBi (_n:Nat) (name0:List UInt8) (t1:List Int):Option AV :=
 bif ((qkt name0 t1)&&true) then
 qyB (((z13 name0 t1).1).length:Int)
 else none
def qtE (s4:Bool):Option AV:=some (dg s4)
def qBj (_n:Nat) (name0:List UInt8) (t1:List Int):Option AV :=
 bif ((qiK name0 t1)&&true) then
 bif ((z27 name0 t1) != (0:Int)) then
 qtE false
 else
 bif ((qks name0 t1)&&true) then
 qtE ((z28 name0 t1).2)
 else none
 else none
def qfj (s2:List UInt8) (s3:Int) (s4:Int):Option AV:=some (.tup [(da s2),(dc s3),(dc s4)])
def qcb (ret:List UInt8→Int→Int→Option AV) (k0:Option AV) (next:List UInt8→List UInt8→Int→Option AV) (_n:Nat) (s0:List UInt8) (out5:List UInt8) (i6:Int):Option AV :=
 bif (decide (i6 < (s0.length:Int))) then
 bif ((decide (0≤i6))&&(decide (i6 < s0.length))) then
 bif ((s0.getD i6.toNat (0:UInt8))==(34:UInt8)) then
 ret out5 (IntKind.wrap .i64 (i6+1)) (0:Int)
 else
 bif ((decide (0≤i6))&&(decide (i6 < s0.length))) then
 bif ((s0.getD i6.toNat (0:UInt8))==(92:UInt8)) then
 bif ((IntKind.wrap .i64 (i6+1))==(s0.length:Int)) then
 k0
 else
 bif ((decide (0≤(IntKind.wrap .i64 (i6+1))))&&(decide ((IntKind.wrap .i64 (i6+1)) < s0.length))) then
 bif (decide (out5.length+List.length ([(s0.getD (IntKind.wrap .i64 (i6+1)).toNat (0:UInt8))]:List UInt8)≤room)) then
 next s0 (out5++([(s0.getD (IntKind.wrap .i64 (i6+1)).toNat (0:UInt8))]:List UInt8)) (IntKind.wrap .i64 ((IntKind.wrap .i64 (i6+1))+1))
 else none
 else none
 else
 bif ((decide (0≤i6))&&(decide (i6 < s0.length))) then
 bif (decide (out5.length+List.length ([(s0.getD i6.toNat (0:UInt8))]:List UInt8)≤room)) then
 next s0 (out5++([(s0.getD i6.toNat (0:UInt8))]:List UInt8)) (IntKind.wrap .i64 (i6+1))
 else none
 else none
 else none
 else none
 else
 k0
def qjc (ret:List UInt8→Int→Int→Option AV) (k0:Option AV):Nat→List UInt8→List UInt8→Int→Option AV
 | 0=>fun _ _ _=>none
 | n+1=>qcb ret k0 (qjc ret k0 n) n
def qgQ (_n:Nat):Option AV :=
 qfj ([]:List UInt8) (0:Int) (4:Int)
def qxc (n:Nat) (s0:List UInt8):Option AV :=
 bif ((s0.length:Int)==(0:Int)) then
 qfj ([]:List UInt8) (0:Int) (3:Int)
 else
 bif ((decide (0≤(0:Int)))&&(decide ((0:Int) < s0.length))) then
 bif ((s0.getD (0:Int).toNat (0:UInt8)) != (34:UInt8)) then
 qfj ([]:List UInt8) (0:Int) (3:Int)
 else
 qjc qfj (qgQ n) n s0 ([]:List UInt8) (1:Int)
 else none
def qeM (s4:Bool):Option AV:=some (dg s4)
def qcw (ret:Bool→Option AV) (k0:Option AV) (next:List UInt8→UInt8→Int→Option AV) (_n:Nat) (s0:List UInt8) (c1:UInt8) (i5:Int):Option AV :=
 bif (decide (i5 < (s0.length:Int))) then
 bif ((decide (0≤i5))&&(decide (i5 < s0.length))) then
 bif ((s0.getD i5.toNat (0:UInt8))==c1) then
 ret true
 else
 next s0 c1 (IntKind.wrap .i64 (i5+1))
 else none
 else
 k0
def qdK (ret:Bool→Option AV) (k0:Option AV):Nat→List UInt8→UInt8→Int→Option AV
 | 0=>fun _ _ _=>none
 | n+1=>qcw ret k0 (qdK ret k0 n) n
def qdL (_n:Nat):Option AV :=
 qeM false
def qkD (n:Nat) (s0:List UInt8) (c1:UInt8):Option AV :=
 qdK qeM (qdL n) n s0 c1 (0:Int)
def qyC (s4:Bool):Option AV:=some (dg s4)
def qES (_n:Nat) (c0:UInt8) (kinds1:Int):Option AV :=
 qyC ((bits .and .i64 (z101 c0) kinds1) != (0:Int))
def qlR (s4:Int):Option AV:=some (dc s4)
def qtF (_n:Nat) (s0:List UInt8) (at1:Int):Option AV :=
 qlR (bif (decide ((s0.length:Int) < (bif (decide ((0:Int) > at1)) then (0:Int) else at1))) then (s0.length:Int) else (bif (decide ((0:Int) > at1)) then (0:Int) else at1))
def qhH (s4:Int):Option AV:=some (dc s4)
def qaN (s0:List UInt8) (i5:Int):=((decide (0≤i5))&&(decide (i5 < s0.length)))
def qeN (ret:Int→Option AV) (k0:Int→Option AV) (next:List UInt8→Int→Option AV) (_n:Nat) (s0:List UInt8) (i5:Int):Option AV :=
 bif (decide (i5 < (s0.length:Int))) then bif (qaN s0 i5) then bif (z65 (s0.getD i5.toNat (0:UInt8)) (2:Int)) then next s0 (IntKind.wrap .i64 (i5+1)) else bif (qaN s0 i5) then bif ((s0.getD i5.toNat (0:UInt8))==(13:UInt8)) then next s0 (IntKind.wrap .i64 (i5+1)) else bif (qaN s0 i5) then bif ((s0.getD i5.toNat (0:UInt8))==(10:UInt8)) then next s0 (IntKind.wrap .i64 (i5+1)) else bif (qaN s0 i5) then bif ((s0.getD i5.toNat (0:UInt8))==(40:UInt8)) then none else ret i5 else none else none else none else none else k0 i5
def qlS (ret:Int→Option AV) (k0:Int→Option AV):Nat→List UInt8→Int→Option AV
 | 0=>fun _ _=>none
 | n+1=>qeN ret k0 (qlS ret k0 n) n
def qgR (_n:Nat) (i5:Int):Option AV :=
 qhH i5
def qBk (n:Nat) (s0:List UInt8) (at1:Int):Option AV :=
 qlS qhH (qgR n) n s0 (z102 s0 at1)
def qtG (s2:List (List UInt8)):Option AV:=some (.dat (.sl (.sl .byte)) s2 (some (2,22)))
def qcx (s0:List UInt8) (i5:Int):=(List.drop i5.toNat (List.take (s0.length:Int).toNat s0))
def qjd (k0:List UInt8→List (List UInt8)→Int→Option AV) (next:List UInt8→List (List UInt8)→Int→Int→Option AV) (_n:Nat) (s0:List UInt8) (out3:List (List UInt8)) (from4:Int) (i5:Int):Option AV :=
 bif (decide (i5 < (s0.length:Int))) then bif ((decide (0≤i5))&&(decide (i5 < s0.length))) then bif ((s0.getD i5.toNat (0:UInt8))==(34:UInt8)) then bif (((decide (0≤i5))&&(decide (i5≤(s0.length:Int))))&&(decide ((s0.length:Int)≤(s0.length:Int)))) then bif ((qps (qcx s0 i5))&&true) then bif (((z66 (qcx s0 i5)).2.2) != (0:Int)) then next s0 out3 from4 (IntKind.wrap .i64 (i5+(IntKind.wrap .i64 ((s0.length:Int) - i5)))) else next s0 out3 from4 (IntKind.wrap .i64 (i5+((z66 (qcx s0 i5)).2.1))) else none else none else bif ((s0.getD i5.toNat (0:UInt8))==(40:UInt8)) then bif ((qav s0 i5)&&true) then next s0 out3 from4 (z67 s0 i5) else none else bif ((s0.getD i5.toNat (0:UInt8))==(59:UInt8)) then bif (((decide (0≤from4))&&(decide (from4≤i5)))&&(decide (i5≤(s0.length:Int)))) then bif (decide (out3.length+List.length ([(List.drop from4.toNat (List.take i5.toNat s0))]:List (List UInt8))≤room)) then next s0 (out3++([(List.drop from4.toNat (List.take i5.toNat s0))]:List (List UInt8))) (IntKind.wrap .i64 (i5+1)) (IntKind.wrap .i64 (i5+1)) else none else none else next s0 out3 from4 (IntKind.wrap .i64 (i5+1)) else none else k0 s0 out3 from4
def qje (k0:List UInt8→List (List UInt8)→Int→Option AV):Nat→List UInt8→List (List UInt8)→Int→Int→Option AV
 | 0=>fun _ _ _ _=>none
 | n+1=>qjd k0 (qje k0 n) n
def qeO (_n:Nat) (s0:List UInt8) (out3:List (List UInt8)) (from4:Int):Option AV :=
 bif (((decide (0≤from4))&&(decide (from4≤(s0.length:Int))))&&(decide ((s0.length:Int)≤(s0.length:Int)))) then
 bif (decide (out3.length+List.length ([(List.drop from4.toNat (List.take (s0.length:Int).toNat s0))]:List (List UInt8))≤room)) then
 qtG (out3++([(List.drop from4.toNat (List.take (s0.length:Int).toNat s0))]:List (List UInt8)))
 else none
 else none
def qBl (n:Nat) (s0:List UInt8):Option AV :=
 qje (qeO n) n s0 ([]:List (List UInt8)) (0:Int) (0:Int)
def qnZ (s4:List UInt8) (s5:Int) (s6:Int):Option AV:=some (.tup [(da s4),(dc s5),(dc s6)])
def qeP (k0:List UInt8→Int→Int→Option AV) (next:List UInt8→Int→Int→Option AV) (_n:Nat) (s0:List UInt8) (i7:Int) (k8:Int):Option AV :=
 bif (decide (k8 < (s0.length:Int))) then
 bif ((decide (0≤k8))&&(decide (k8 < s0.length))) then
 bif (z65 (s0.getD k8.toNat (0:UInt8)) (64:Int)) then
 next s0 i7 (IntKind.wrap .i64 (k8+1))
 else
 k0 s0 i7 k8
 else none
 else
 k0 s0 i7 k8
def qlT (k0:List UInt8→Int→Int→Option AV):Nat→List UInt8→Int→Int→Option AV
 | 0=>fun _ _ _=>none
 | n+1=>qeP k0 (qlT k0 n) n
def qgS (_n:Nat) (s0:List UInt8) (i7:Int) (k8:Int):Option AV :=
 bif (k8==i7) then
 qnZ ([]:List UInt8) (0:Int) (3:Int)
 else
 bif (((decide (0≤i7))&&(decide (i7≤k8)))&&(decide (k8≤(s0.length:Int)))) then
 qnZ (List.drop i7.toNat (List.take k8.toNat s0)) k8 (0:Int)
 else none
def qxd (n:Nat) (s0:List UInt8) (at1:Int):Option AV :=
 bif ((z102 s0 at1)==(s0.length:Int)) then
 qnZ ([]:List UInt8) (0:Int) (4:Int)
 else
 qlT (qgS n) n s0 (z102 s0 at1) (z102 s0 at1)
def qoa (s6:Int) (s7:Bool):Option AV:=some (.tup [(dc s6),(dg s7)])
def qBm (_n:Nat) (s0:List UInt8) (at1:Int) (c2:UInt8):Option AV :=
 bif ((qav s0 at1)&&true) then
 bif (decide ((z67 s0 at1) < (s0.length:Int))) then
 bif ((decide (0≤(z67 s0 at1)))&&(decide ((z67 s0 at1) < s0.length))) then
 bif ((s0.getD (z67 s0 at1).toNat (0:UInt8))==c2) then
 qoa (IntKind.wrap .i64 ((z67 s0 at1)+1)) true
 else
 qoa (z102 s0 at1) false
 else none
 else
 qoa (z102 s0 at1) false
 else none
def qkE (s4:List UInt8) (s5:Int) (s6:Int):Option AV:=some (.tup [(da s4),(dc s5),(dc s6)])
def qcy (s0:List UInt8) (at1:Int):=(List.drop (z102 s0 at1).toNat (List.take (s0.length:Int).toNat s0))
def qBn (_n:Nat) (s0:List UInt8) (at1:Int):Option AV :=
 bif ((z102 s0 at1)==(s0.length:Int)) then bif ((qlw s0 at1)&&true) then qkE ((z68 s0 at1).1) ((z68 s0 at1).2.1) ((z68 s0 at1).2.2) else none else bif ((decide (0≤(z102 s0 at1)))&&(decide ((z102 s0 at1) < s0.length))) then bif ((s0.getD (z102 s0 at1).toNat (0:UInt8)) != (34:UInt8)) then bif ((qlw s0 at1)&&true) then qkE ((z68 s0 at1).1) ((z68 s0 at1).2.1) ((z68 s0 at1).2.2) else none else bif (((decide (0≤(z102 s0 at1)))&&(decide ((z102 s0 at1)≤(s0.length:Int))))&&(decide ((s0.length:Int)≤(s0.length:Int)))) then bif ((qps (qcy s0 at1))&&true) then bif (((z66 (qcy s0 at1)).2.2) != (0:Int)) then qkE ([]:List UInt8) (0:Int) ((z66 (qcy s0 at1)).2.2) else qkE ((z66 (qcy s0 at1)).1) (IntKind.wrap .i64 ((z102 s0 at1)+((z66 (qcy s0 at1)).2.1))) (0:Int) else none else none else none
def qob (s2:UInt8):Option AV:=some (dm s2 none)
def qBo (_n:Nat) (c0:UInt8):Option AV :=
 bif (decide ((65:UInt8)≤c0)) then
 bif (decide (c0≤(90:UInt8))) then
 qob (c0+(32:UInt8))
 else
 qob c0
 else
 qob c0
def qyD (s2:List UInt8):Option AV:=some (db s2 (some (2,5)))
def qeQ (k0:List UInt8→Option AV) (next:List UInt8→List UInt8→Int→Option AV) (_n:Nat) (s0:List UInt8) (out3:List UInt8) (i4:Int):Option AV :=
 bif (decide (i4 < (s0.length:Int))) then
 bif ((decide (0≤i4))&&(decide (i4 < s0.length))) then
 bif (decide (out3.length+List.length ([(z41 (s0.getD i4.toNat (0:UInt8)))]:List UInt8)≤room)) then
 next s0 (out3++([(z41 (s0.getD i4.toNat (0:UInt8)))]:List UInt8)) (IntKind.wrap .i64 (i4+1))
 else none
 else none
 else
 k0 out3
def qlU (k0:List UInt8→Option AV):Nat→List UInt8→List UInt8→Int→Option AV
 | 0=>fun _ _ _=>none
 | n+1=>qeQ k0 (qlU k0 n) n
def qeR (_n:Nat) (out3:List UInt8):Option AV :=
 qyD out3
def qxe (n:Nat) (s0:List UInt8):Option AV :=
 qlU (qeR n) n s0 ([]:List UInt8) (0:Int)
def qyE (s4:Int):Option AV:=some (dc s4)
def qeS (k0:Int→Option AV) (next:List UInt8→Int→Int→Int→Option AV) (_n:Nat) (s0:List UInt8) (kinds1:Int) (n5:Int) (i6:Int):Option AV :=
 bif (decide (i6 < (s0.length:Int))) then
 bif ((decide (0≤i6))&&(decide (i6 < s0.length))) then
 bif (z65 (s0.getD i6.toNat (0:UInt8)) kinds1) then
 next s0 kinds1 (IntKind.wrap .i64 (n5+1)) (IntKind.wrap .i64 (i6+1))
 else
 next s0 kinds1 n5 (IntKind.wrap .i64 (i6+1))
 else none
 else
 k0 n5
def qjf (k0:Int→Option AV):Nat→List UInt8→Int→Int→Int→Option AV
 | 0=>fun _ _ _ _=>none
 | n+1=>qeS k0 (qjf k0 n) n
def qgT (_n:Nat) (n5:Int):Option AV :=
 qyE n5
def qxf (n:Nat) (s0:List UInt8) (kinds1:Int):Option AV :=
 qjf (qgT n) n s0 kinds1 (0:Int) (0:Int)
def qcW (s2:Int):Option AV:=some (dc s2)
def qoc (ret:Int→Option AV) (k0:List UInt8→Int→Option AV) (next:List UInt8→Int→Int→Option AV) (_n:Nat) (s0:List UInt8) (n3:Int) (i4:Int):Option AV :=
 bif (decide (i4 < (s0.length:Int))) then
 bif ((decide (0≤i4))&&(decide (i4 < s0.length))) then
 bif (decide ((s0.getD i4.toNat (0:UInt8)) < (48:UInt8))) then
 ret (-1:Int)
 else
 bif ((decide (0≤i4))&&(decide (i4 < s0.length))) then
 bif (decide ((57:UInt8) < (s0.getD i4.toNat (0:UInt8)))) then
 ret (-1:Int)
 else
 bif (decide ((2:Int) < i4)) then
 ret (-1:Int)
 else
 bif ((decide (0≤i4))&&(decide (i4 < s0.length))) then
 next s0 (IntKind.wrap .i64 ((IntKind.wrap .i64 ((10:Int)*n3))+(IntKind.wrap .i64 ((UInt8.toNat ((s0.getD i4.toNat (0:UInt8)) - (48:UInt8)):Nat):Int)))) (IntKind.wrap .i64 (i4+1))
 else none
 else none
 else none
 else
 k0 s0 n3
def qhI (ret:Int→Option AV) (k0:List UInt8→Int→Option AV):Nat→List UInt8→Int→Int→Option AV
 | 0=>fun _ _ _=>none
 | n+1=>qoc ret k0 (qhI ret k0 n) n
def qfL (_n:Nat) (s0:List UInt8) (n3:Int):Option AV :=
 bif ((s0.length:Int)==(0:Int)) then
 qcW (-1:Int)
 else
 bif ((decide (0≤(0:Int)))&&(decide ((0:Int) < s0.length))) then
 bif ((s0.getD (0:Int).toNat (0:UInt8))==(48:UInt8)) then
 bif (decide ((1:Int) < (s0.length:Int))) then
 qcW (-1:Int)
 else
 qcW n3
 else
 qcW n3
 else none
def qod (n:Nat) (s0:List UInt8):Option AV :=
 qhI qcW (qfL n) n s0 (0:Int) (0:Int)
def qdM (s2:List UInt8) (s3:Int) (s4:Bool):Option AV:=some (.tup [(da s2),(dc s3),(dg s4)])
def qeT (k0:List UInt8→Int→Option AV) (next:List UInt8→Int→Int→Option AV) (_n:Nat) (a0:List UInt8) (star5:Int) (i6:Int):Option AV :=
 bif (decide (0≤i6)) then
 bif ((decide (0≤i6))&&(decide (i6 < a0.length))) then
 bif ((a0.getD i6.toNat (0:UInt8))==(42:UInt8)) then
 next a0 i6 (IntKind.wrap .i64 (i6 - (1:Int)))
 else
 next a0 star5 (IntKind.wrap .i64 (i6 - (1:Int)))
 else none
 else
 k0 a0 star5
def qlV (k0:List UInt8→Int→Option AV):Nat→List UInt8→Int→Int→Option AV
 | 0=>fun _ _ _=>none
 | n+1=>qeT k0 (qlV k0 n) n
def qT (a0:List UInt8) (star5:Int):=(List.drop (IntKind.wrap .i64 (star5+1)).toNat (List.take (a0.length:Int).toNat a0))
def qay (a0:List UInt8) (star5:Int):=(IntKind.wrap .i64 (((qT a0 star5).length:Int) - (1:Int)))
def qad (a0:List UInt8) (star5:Int):=(List.drop ((0:Nat):Int).toNat (List.take star5.toNat a0))
def qbx (a0:List UInt8) (star5:Int):=(((decide (0≤((0:Nat):Int)))&&(decide (((0:Nat):Int)≤star5)))&&(decide (star5≤(a0.length:Int))))
def qcz (a0:List UInt8) (star5:Int):=(List.drop ((0:Nat):Int).toNat (List.take (qay a0 star5).toNat (qT a0 star5)))
def qcA (a0:List UInt8) (star5:Int):=(((qT a0 star5).getD (qay a0 star5).toNat (0:UInt8))==(42:UInt8))
def qgU (_n:Nat) (a0:List UInt8) (star5:Int):Option AV :=
 bif (decide (star5 < (1:Int))) then bif ((qdz a0)&&true) then qdM (z21 a0) (-1:Int) false else none else bif (qbx a0 star5) then bif ((quU (qad a0 star5) (256:Int))&&true) then bif ((z37 (qad a0 star5) (256:Int)) != star5) then bif ((qdz a0)&&true) then qdM (z21 a0) (-1:Int) false else none else bif (((decide (0≤(IntKind.wrap .i64 (star5+1))))&&(decide ((IntKind.wrap .i64 (star5+1))≤(a0.length:Int))))&&(decide ((a0.length:Int)≤(a0.length:Int)))) then bif (((qT a0 star5).length:Int)==(0:Int)) then bif (qbx a0 star5) then bif ((qdz (qad a0 star5))&&true) then qdM (z21 (qad a0 star5)) (-1:Int) true else none else none else bif ((decide (0≤(qay a0 star5)))&&(decide ((qay a0 star5) < (qT a0 star5).length))) then bif (qcA a0 star5) then bif (((decide (0≤((0:Nat):Int)))&&(decide (((0:Nat):Int)≤(qay a0 star5))))&&(decide ((qay a0 star5)≤((qT a0 star5).length:Int)))) then bif ((qdC (qcz a0 star5))&&true) then bif (decide ((z104 (qcz a0 star5)) < (0:Int))) then bif ((qdz a0)&&true) then qdM (z21 a0) (-1:Int) false else none else bif (qbx a0 star5) then bif ((qdz (qad a0 star5))&&true) then qdM (z21 (qad a0 star5)) (z104 (qcz a0 star5)) (qcA a0 star5) else none else none else none else none else bif ((qdC (qT a0 star5))&&true) then bif (decide ((z104 (qT a0 star5)) < (0:Int))) then bif ((qdz a0)&&true) then qdM (z21 a0) (-1:Int) false else none else bif (qbx a0 star5) then bif ((qdz (qad a0 star5))&&true) then qdM (z21 (qad a0 star5)) (z104 (qT a0 star5)) (qcA a0 star5) else none else none else none else none else none else none else none
def qxg (n:Nat) (a0:List UInt8):Option AV :=
 qlV (qgU n) n a0 (-1:Int) (IntKind.wrap .i64 ((a0.length:Int) - (1:Int)))
def qhJ (s2:(List UInt8)×(Int×(Bool×((List UInt8)×Unit)))) (s3:Int):Option AV:=some (.tup [(.dat (.pair (.sl .byte) (.pair (.int .i64) (.pair .bool (.pair (.sl .byte) .unit)))) s2 none),(dc s3)])
def qdN (part0:List UInt8):=(z69 part0 ((z68 part0 (z67 part0 (0:Int))).2.1) (61:UInt8))
def qdO:=(([]:List UInt8),((0:Int),(false,(([]:List UInt8),()))))
def qbD (part0:List UInt8):=(z68 part0 (z67 part0 (0:Int)))
def qdP (part0:List UInt8):=(z70 part0 (z67 part0 ((qdN part0).1)))
def qBp (_n:Nat) (part0:List UInt8):Option AV :=
 bif ((qav part0 (0:Int))&&true) then bif ((qlw part0 (z67 part0 (0:Int)))&&true) then bif (((qbD part0).2.2) != (0:Int)) then qhJ (qdO) (3:Int) else bif ((qww part0 ((qbD part0).2.1) (61:UInt8))&&true) then bif (!((qdN part0).2)) then qhJ (qdO) (3:Int) else bif ((qav part0 ((qdN part0).1))&&true) then bif ((qwx part0 (z67 part0 ((qdN part0).1)))&&true) then bif (((qdP part0).2.2) != (0:Int)) then qhJ (qdO) (3:Int) else bif ((qav part0 ((qdP part0).2.1))&&true) then bif ((z67 part0 ((qdP part0).2.1)) != (part0.length:Int)) then qhJ (qdO) (3:Int) else bif ((qfs ((qbD part0).1))&&true) then qhJ (((z71 ((qbD part0).1)).1),(((z71 ((qbD part0).1)).2.1),(((z71 ((qbD part0).1)).2.2),(((qdP part0).1),())))) (0:Int) else none else none else none else none else none else none else none
def qyF (s2:Bool):Option AV:=some (dg s2)
def qBq (_n:Nat) (part0:List UInt8):Option AV :=
 bif ((qav part0 (0:Int))&&true) then
 qyF ((z67 part0 (0:Int))==(part0.length:Int))
 else none
def qkF (s2:List ((List UInt8)×(Int×(Bool×((List UInt8)×Unit))))) (s3:Int):Option AV:=some (.tup [(.dat (.sl (.pair (.sl .byte) (.pair (.int .i64) (.pair .bool (.pair (.sl .byte) .unit))))) s2 none),(dc s3)])
def qaj (l6:List (List UInt8)) (i7:Int):=(l6.getD i7.toNat ([]:List UInt8))
def qeU (k0:List ((List UInt8)×(Int×(Bool×((List UInt8)×Unit))))→Int→Option AV) (next:List ((List UInt8)×(Int×(Bool×((List UInt8)×Unit))))→Int→List (List UInt8)→Int→Option AV) (_n:Nat) (out4:List ((List UInt8)×(Int×(Bool×((List UInt8)×Unit))))) (bad5:Int) (l6:List (List UInt8)) (i7:Int):Option AV :=
 bif (decide (i7 < (l6.length:Int))) then bif ((decide (0≤i7))&&(decide (i7 < l6.length))) then bif ((qel (qaj l6 i7))&&true) then bif (((z39 (qaj l6 i7)).2)==(0:Int)) then bif (decide (out4.length+List.length ([((z39 (qaj l6 i7)).1)]:List ((List UInt8)×(Int×(Bool×((List UInt8)×Unit)))))≤room)) then next (out4++([((z39 (qaj l6 i7)).1)]:List ((List UInt8)×(Int×(Bool×((List UInt8)×Unit)))))) bad5 l6 (IntKind.wrap .i64 (i7+1)) else none else bif ((decide (0≤i7))&&(decide (i7 < l6.length))) then bif ((qwy (qaj l6 i7))&&true) then bif (!(z40 (qaj l6 i7))) then next out4 (IntKind.wrap .i64 (bad5+1)) l6 (IntKind.wrap .i64 (i7+1)) else next out4 bad5 l6 (IntKind.wrap .i64 (i7+1)) else none else none else none else none else k0 out4 bad5
def qlW (k0:List ((List UInt8)×(Int×(Bool×((List UInt8)×Unit))))→Int→Option AV):Nat→List ((List UInt8)×(Int×(Bool×((List UInt8)×Unit))))→Int→List (List UInt8)→Int→Option AV
 | 0=>fun _ _ _ _=>none
 | n+1=>qeU k0 (qlW k0 n) n
def qgV (_n:Nat) (out4:List ((List UInt8)×(Int×(Bool×((List UInt8)×Unit))))) (bad5:Int):Option AV :=
 qkF out4 bad5
def qxh (n:Nat) (s0:List UInt8):Option AV :=
 bif ((qpt s0)&&true) then
 qlW (qgV n) n ([]:List ((List UInt8)×(Int×(Bool×((List UInt8)×Unit))))) (0:Int) (z38 s0) (0:Int)
 else none
def qeV (s4:Bool):Option AV:=some (dg s4)
def qaO (ret:Bool→Option AV) (next:List UInt8→List Int→List ((List UInt8)×(Int×(Bool×((List UInt8)×Unit))))→List ((List UInt8)×(Int×(Bool×((List UInt8)×Unit))))→Int→Int→Option AV) (name0:List UInt8) (t1:List Int) (l7:List ((List UInt8)×(Int×(Bool×((List UInt8)×Unit))))) (s55:List ((List UInt8)×(Int×(Bool×((List UInt8)×Unit))))) (s56:Int) (s57:Int):=( bif ((qdz name0)&&true) then bif ((qqZ (s55.getD s57.toNat (([]:List UInt8),((0:Int),(false,(([]:List UInt8),()))))).1 (z21 name0))&&true) then bif (!(z11 (s55.getD s57.toNat (([]:List UInt8),((0:Int),(false,(([]:List UInt8),()))))).1 (z21 name0))) then ret false else bif ((s55.getD s57.toNat (([]:List UInt8),((0:Int),(false,(([]:List UInt8),()))))).2.1 != s57) then ret false else both ( bif ((qiL name0 t1)&&true) then bif ((s55.getD s57.toNat (([]:List UInt8),((0:Int),(false,(([]:List UInt8),()))))).2.2.1==(z16 name0 t1)) then ret false else next name0 t1 l7 s55 s56 (IntKind.wrap .i64 (s57+1)) else none) ( bif ((qiL name0 t1)&&true) then bif ((s55.getD s57.toNat (([]:List UInt8),((0:Int),(false,(([]:List UInt8),()))))).2.2.1==(z16 name0 t1)) then ret false else next name0 t1 l7 s55 s56 (IntKind.wrap .i64 (s57+1)) else none) else none else none)
def qak (s55:List ((List UInt8)×(Int×(Bool×((List UInt8)×Unit))))) (s57:Int):=(s55.getD s57.toNat (([]:List UInt8),((0:Int),(false,(([]:List UInt8),())))))
def qcB (ret:Bool→Option AV) (next:List UInt8→List Int→List ((List UInt8)×(Int×(Bool×((List UInt8)×Unit))))→List ((List UInt8)×(Int×(Bool×((List UInt8)×Unit))))→Int→Int→Option AV) (name0:List UInt8) (t1:List Int) (l7:List ((List UInt8)×(Int×(Bool×((List UInt8)×Unit))))) (s55:List ((List UInt8)×(Int×(Bool×((List UInt8)×Unit))))) (s56:Int) (s57:Int):=( bif ((qdz name0)&&true) then bif ((qqZ (qak s55 s57).1 (z21 name0))&&true) then bif (!(z11 (qak s55 s57).1 (z21 name0))) then ret false else bif ((qak s55 s57).2.1 != (-1:Int)) then ret false else both ( bif ((qiL name0 t1)&&true) then bif ((qak s55 s57).2.2.1==(z16 name0 t1)) then ret false else next name0 t1 l7 s55 s56 (IntKind.wrap .i64 (s57+1)) else none) ( bif ((qiL name0 t1)&&true) then bif ((qak s55 s57).2.2.1==(z16 name0 t1)) then ret false else next name0 t1 l7 s55 s56 (IntKind.wrap .i64 (s57+1)) else none) else none else none)
def qeW (ret:Bool→Option AV) (k0:Option AV) (next:List UInt8→List Int→List ((List UInt8)×(Int×(Bool×((List UInt8)×Unit))))→List ((List UInt8)×(Int×(Bool×((List UInt8)×Unit))))→Int→Int→Option AV) (_n:Nat) (name0:List UInt8) (t1:List Int) (l7:List ((List UInt8)×(Int×(Bool×((List UInt8)×Unit))))) (s55:List ((List UInt8)×(Int×(Bool×((List UInt8)×Unit))))) (s56:Int) (s57:Int):Option AV :=
 bif (decide (s57 < s56)) then bif ((decide (0≤s57))&&(decide (s57 < s55.length))) then bif ((l7.length:Int)==(1:Int)) then bif (decide ((qak s55 s57).2.1 < (0:Int))) then both (qcB ret next name0 t1 l7 s55 s56 s57) (qcB ret next name0 t1 l7 s55 s56 s57) else both (qaO ret next name0 t1 l7 s55 s56 s57) (qaO ret next name0 t1 l7 s55 s56 s57) else both (qaO ret next name0 t1 l7 s55 s56 s57) (qaO ret next name0 t1 l7 s55 s56 s57) else none else k0
def qkG (ret:Bool→Option AV) (k0:Option AV):Nat→List UInt8→List Int→List ((List UInt8)×(Int×(Bool×((List UInt8)×Unit))))→List ((List UInt8)×(Int×(Bool×((List UInt8)×Unit))))→Int→Int→Option AV
 | 0=>fun _ _ _ _ _ _=>none
 | n+1=>qeW ret k0 (qkG ret k0 n) n
def qeX (_n:Nat):Option AV :=
 qeV z6
def z5_sh (n:Nat) (name0:List UInt8) (t1:List Int):Option AV :=
 bif (decide ((100:Int) < (name0.length:Int))) then
 qeV z6
 else
 bif (decide ((100:Int) < (t1.length:Int))) then
 qeV z6
 else
 bif ((z7_ok name0 t1)&&true) then
 bif (((z7 name0 t1).2) != (0:Int)) then
 bif ((((z7 name0 t1).1).length:Int)==(0:Int)) then
 qeV z6
 else
 qeV false
 else
 bif ((qpu ((z7 name0 t1).1))&&true) then
 bif (((z20 ((z7 name0 t1).1)).2) != (0:Int)) then
 qeV false
 else
 bif ((qwv name0 t1)&&true) then
 bif ((((z20 ((z7 name0 t1).1)).1).length:Int) != (z15 name0 t1)) then
 qeV false
 else
 bif ((((z20 ((z7 name0 t1).1)).1).length:Int)==(0:Int)) then
 qeV false
 else
 qkG qeV (qeX n) n name0 t1 ((z20 ((z7 name0 t1).1)).1) ((z20 ((z7 name0 t1).1)).1) (((z20 ((z7 name0 t1).1)).1).length:Int) (0:Int)
 else none
 else none
 else none
end
end Go.Av
