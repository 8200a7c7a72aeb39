import Derived.Test.YtopepdfipgfakaaGreatDoorEfM
import Derived.Test.YtopepdfipgfakaaGreatDoorAvE
namespace Go.Av
set_option linter.unusedSimpArgs false
set_option linter.unusedVariables false
noncomputable section
def qpZ (s4:Int):Option AV:=some (.dat (.int .i64) s4 none)
def quU (_n:Nat) (b0:List UInt8) (c1:UInt8):Option AV :=
 qpZ (z151 b0 c1)
def qfB (s4:Int):Option AV:=some (.dat (.int .i64) s4 none)
def qlk (ret:Int→Option AV) (next:List UInt8→List UInt8→Int→Option AV) (_n:Nat) (s0:List UInt8) (sep1:List UInt8) (n5:Int):Option AV :=
 bif ((qgy s0 sep1)&&true) then
 bif ((z125 s0 sep1)==(-1:Int)) then
 ret n5
 else
 bif (((decide ((0:Int)≤(IntKind.wrap .i64 ((z125 s0 sep1)+((List.length sep1:Nat):Int)))))&&(decide ((IntKind.wrap .i64 ((z125 s0 sep1)+((List.length sep1:Nat):Int)))≤((List.length s0:Nat):Int))))&&(decide (((List.length s0:Nat):Int)≤((List.length s0:Nat):Int)))) then
 next (List.drop (Int.toNat (IntKind.wrap .i64 ((z125 s0 sep1)+((List.length sep1:Nat):Int)))) (List.take (Int.toNat ((List.length s0:Nat):Int)) s0)) sep1 (IntKind.wrap .i64 (n5+(1:Int)))
 else none
 else none
def qgo (ret:Int→Option AV):Nat→List UInt8→List UInt8→Int→Option AV
 | 0=>fun _ _ _=>none
 | n+1=>qlk ret (qgo ret n) n
def qqa (n:Nat) (s0:List UInt8) (sep1:List UInt8):Option AV :=
 bif (((List.length sep1:Nat):Int)==(0:Int)) then
 bif ((qvu s0)&&true) then
 qfB (IntKind.wrap .i64 ((z173 s0)+(1:Int)))
 else none
 else
 bif (((List.length sep1:Nat):Int)==(1:Int)) then
 bif ((decide ((0:Int)≤(0:Int)))&&(decide ((0:Int) < (List.length sep1:Nat)))) then
 qfB (z174 s0 (List.getD sep1 (Int.toNat (0:Int)) (0:UInt8)))
 else none
 else
 qgo qfB n s0 sep1 (0:Int)
def qiG (s8:List (List UInt8)):Option AV:=some (.dat (.sl (.sl .byte)) s8 none)
def qcf (k0:List UInt8→List (List UInt8)→Int→Option AV) (next:List UInt8→List UInt8→Int→Int→List (List UInt8)→Int→Option AV) (_n:Nat) (s0:List UInt8) (sep1:List UInt8) (sepSave2:Int) (n3:Int) (a9:List (List UInt8)) (i10:Int):Option AV :=
 bif (decide (i10 < n3)) then
 bif ((qgy s0 sep1)&&true) then
 bif (decide ((z125 s0 sep1) < (0:Int))) then
 k0 s0 a9 i10
 else
 bif ((((decide ((0:Int)≤((0:Nat):Int)))&&(decide (((0:Nat):Int)≤(IntKind.wrap .i64 ((z125 s0 sep1)+sepSave2)))))&&(decide ((IntKind.wrap .i64 ((z125 s0 sep1)+sepSave2))≤(IntKind.wrap .i64 ((z125 s0 sep1)+sepSave2)))))&&(decide ((IntKind.wrap .i64 ((z125 s0 sep1)+sepSave2))≤((List.length s0:Nat):Int)))) then
 bif ((decide ((0:Int)≤i10))&&(decide (i10 < (List.length a9:Nat)))) then
 bif (((decide ((0:Int)≤(IntKind.wrap .i64 ((z125 s0 sep1)+((List.length sep1:Nat):Int)))))&&(decide ((IntKind.wrap .i64 ((z125 s0 sep1)+((List.length sep1:Nat):Int)))≤((List.length s0:Nat):Int))))&&(decide (((List.length s0:Nat):Int)≤((List.length s0:Nat):Int)))) then
 next (List.drop (Int.toNat (IntKind.wrap .i64 ((z125 s0 sep1)+((List.length sep1:Nat):Int)))) (List.take (Int.toNat ((List.length s0:Nat):Int)) s0)) sep1 sepSave2 n3 (List.set a9 (Int.toNat i10) (List.drop (Int.toNat ((0:Nat):Int)) (List.take (Int.toNat (IntKind.wrap .i64 ((z125 s0 sep1)+sepSave2))) s0))) (IntKind.wrap .i64 (i10+(1:Int)))
 else none
 else none
 else none
 else none
 else
 k0 s0 a9 i10
def qct (k0:List UInt8→List (List UInt8)→Int→Option AV):Nat→List UInt8→List UInt8→Int→Int→List (List UInt8)→Int→Option AV
 | 0=>fun _ _ _ _ _ _=>none
 | n+1=>qcf k0 (qct k0 n) n
def qaa (_n:Nat) (s0:List UInt8) (a9:List (List UInt8)) (i10:Int):Option AV :=
 bif ((decide ((0:Int)≤i10))&&(decide (i10 < (List.length a9:Nat)))) then
 bif (((decide ((0:Int)≤((0:Nat):Int)))&&(decide (((0:Nat):Int)≤(IntKind.wrap .i64 (i10+(1:Int))))))&&(decide ((IntKind.wrap .i64 (i10+(1:Int)))≤((List.length (List.set a9 (Int.toNat i10) s0):Nat):Int)))) then
 qiG (List.drop (Int.toNat ((0:Nat):Int)) (List.take (Int.toNat (IntKind.wrap .i64 (i10+(1:Int)))) (List.set a9 (Int.toNat i10) s0)))
 else none
 else none
def qtJ (n:Nat) (s0:List UInt8) (sep1:List UInt8) (sepSave2:Int) (n3:Int):Option AV :=
 bif (n3==(0:Int)) then
 qiG ([]:List (List UInt8))
 else
 bif (((List.length sep1:Nat):Int)==(0:Int)) then
 bif ((qvv s0 n3)&&true) then
 qiG (z123 s0 n3)
 else none
 else
 bif (decide (n3 < (0:Int))) then
 bif ((qgx s0 sep1)&&true) then
 bif (((decide ((0:Int)≤(bif (decide ((IntKind.wrap .i64 (((List.length s0:Nat):Int)+(1:Int))) < (IntKind.wrap .i64 ((z124 s0 sep1)+(1:Int))))) then (IntKind.wrap .i64 (((List.length s0:Nat):Int)+(1:Int))) else (IntKind.wrap .i64 ((z124 s0 sep1)+(1:Int))))))&&(decide ((bif (decide ((IntKind.wrap .i64 (((List.length s0:Nat):Int)+(1:Int))) < (IntKind.wrap .i64 ((z124 s0 sep1)+(1:Int))))) then (IntKind.wrap .i64 (((List.length s0:Nat):Int)+(1:Int))) else (IntKind.wrap .i64 ((z124 s0 sep1)+(1:Int))))≤(bif (decide ((IntKind.wrap .i64 (((List.length s0:Nat):Int)+(1:Int))) < (IntKind.wrap .i64 ((z124 s0 sep1)+(1:Int))))) then (IntKind.wrap .i64 (((List.length s0:Nat):Int)+(1:Int))) else (IntKind.wrap .i64 ((z124 s0 sep1)+(1:Int)))))))&&(decide ((bif (decide ((IntKind.wrap .i64 (((List.length s0:Nat):Int)+(1:Int))) < (IntKind.wrap .i64 ((z124 s0 sep1)+(1:Int))))) then (IntKind.wrap .i64 (((List.length s0:Nat):Int)+(1:Int))) else (IntKind.wrap .i64 ((z124 s0 sep1)+(1:Int))))≤(room:Int)))) then
 qct (qaa n) n s0 sep1 sepSave2 (IntKind.wrap .i64 ((bif (decide ((IntKind.wrap .i64 (((List.length s0:Nat):Int)+(1:Int))) < (IntKind.wrap .i64 ((z124 s0 sep1)+(1:Int))))) then (IntKind.wrap .i64 (((List.length s0:Nat):Int)+(1:Int))) else (IntKind.wrap .i64 ((z124 s0 sep1)+(1:Int)))) - (1:Int))) (List.replicate (Int.toNat (bif (decide ((IntKind.wrap .i64 (((List.length s0:Nat):Int)+(1:Int))) < (IntKind.wrap .i64 ((z124 s0 sep1)+(1:Int))))) then (IntKind.wrap .i64 (((List.length s0:Nat):Int)+(1:Int))) else (IntKind.wrap .i64 ((z124 s0 sep1)+(1:Int))))) ([]:List UInt8)) (0:Int)
 else none
 else none
 else
 bif (((decide ((0:Int)≤(bif (decide ((IntKind.wrap .i64 (((List.length s0:Nat):Int)+(1:Int))) < n3)) then (IntKind.wrap .i64 (((List.length s0:Nat):Int)+(1:Int))) else n3)))&&(decide ((bif (decide ((IntKind.wrap .i64 (((List.length s0:Nat):Int)+(1:Int))) < n3)) then (IntKind.wrap .i64 (((List.length s0:Nat):Int)+(1:Int))) else n3)≤(bif (decide ((IntKind.wrap .i64 (((List.length s0:Nat):Int)+(1:Int))) < n3)) then (IntKind.wrap .i64 (((List.length s0:Nat):Int)+(1:Int))) else n3))))&&(decide ((bif (decide ((IntKind.wrap .i64 (((List.length s0:Nat):Int)+(1:Int))) < n3)) then (IntKind.wrap .i64 (((List.length s0:Nat):Int)+(1:Int))) else n3)≤(room:Int)))) then
 qct (qaa n) n s0 sep1 sepSave2 (IntKind.wrap .i64 ((bif (decide ((IntKind.wrap .i64 (((List.length s0:Nat):Int)+(1:Int))) < n3)) then (IntKind.wrap .i64 (((List.length s0:Nat):Int)+(1:Int))) else n3) - (1:Int))) (List.replicate (Int.toNat (bif (decide ((IntKind.wrap .i64 (((List.length s0:Nat):Int)+(1:Int))) < n3)) then (IntKind.wrap .i64 (((List.length s0:Nat):Int)+(1:Int))) else n3)) ([]:List UInt8)) (0:Int)
 else none
def quV (s4:List (List UInt8)):Option AV:=some (.dat (.sl (.sl .byte)) s4 none)
def qxb (_n:Nat) (s0:List UInt8) (sep1:List UInt8):Option AV :=
 bif ((qmN s0 sep1 (0:Int) (-1:Int))&&true) then
 quV (z78 s0 sep1 (0:Int) (-1:Int))
 else none
def qhy (s2:UInt8):Option AV:=some (.dat .byte s2 none)
def qqb (_n:Nat) (c0:UInt8):Option AV :=
 bif (decide ((65:UInt8)≤c0)) then
 bif (decide (c0≤(90:UInt8))) then
 qhy (c0 ||| (32:UInt8))
 else
 qhy c0
 else
 qhy c0
def quW (s2:List UInt8):Option AV:=some (.dat (.sl .byte) s2 (some (2,5)))
def qdT (k0:List UInt8→Option AV) (next:List UInt8→Int→Int→Option AV) (_n:Nat) (out3:List UInt8) (s9:Int) (s10:Int):Option AV :=
 bif (decide (s10 < s9)) then
 bif ((decide ((0:Int)≤s10))&&(decide (s10 < (List.length out3:Nat)))) then
 bif ((decide ((0:Int)≤s10))&&(decide (s10 < (List.length out3:Nat)))) then
 next (List.set out3 (Int.toNat s10) (z126 (List.getD out3 (Int.toNat s10) (0:UInt8)))) s9 (IntKind.wrap .i64 (s10+(1:Int)))
 else none
 else none
 else
 k0 out3
def qhz (k0:List UInt8→Option AV):Nat→List UInt8→Int→Int→Option AV
 | 0=>fun _ _ _=>none
 | n+1=>qdT k0 (qhz k0 n) n
def qfC (_n:Nat) (out3:List UInt8):Option AV :=
 quW out3
def qtK (n:Nat) (s0:List UInt8):Option AV :=
 bif ((qcK s0)&&true) then
 qhz (qfC n) n (z38 s0) ((List.length (z38 s0):Nat):Int) (0:Int)
 else none
def qiH (s2:Int):Option AV:=some (.dat (.int .i64) s2 none)
def qxc (_n:Nat) (s0:List UInt8):Option AV :=
 bif ((qmQ s0)&&true) then
 bif ((z79 s0)==([98]:List UInt8)) then
 qiH (1:Int)
 else
 bif ((z79 s0)==([113]:List UInt8)) then
 qiH (2:Int)
 else
 qiH (0:Int)
 else none
def qf (s2:Int):Option AV:=some (.dat (.int .i64) s2 none)
def qqc (_n:Nat) (c0:UInt8):Option AV :=
 bif (decide (c0 < (32:UInt8))) then
 bif (c0==(32:UInt8)) then
 qf (bits .or .i64 (bits .or .i64 (0:Int) (1:Int)) (2:Int))
 else
 bif (c0==(9:UInt8)) then
 qf (bits .or .i64 (bits .or .i64 (0:Int) (1:Int)) (2:Int))
 else
 bif (decide ((48:UInt8)≤c0)) then
 bif (decide (c0≤(57:UInt8))) then
 qf (bits .or .i64 (bits .or .i64 (0:Int) (1:Int)) (648:Int))
 else
 bif (decide ((65:UInt8)≤c0)) then
 bif (decide (c0≤(90:UInt8))) then
 bif (decide (c0≤(90:UInt8))) then
 qf (bits .or .i64 (bits .or .i64 (0:Int) (1:Int)) (656:Int))
 else
 qf (bits .or .i64 (0:Int) (1:Int))
 else
 bif (decide ((97:UInt8)≤c0)) then
 bif (decide (c0≤(122:UInt8))) then
 qf (bits .or .i64 (bits .or .i64 (0:Int) (1:Int)) (656:Int))
 else
 qf (bits .or .i64 (0:Int) (1:Int))
 else
 qf (bits .or .i64 (0:Int) (1:Int))
 else
 bif (decide ((97:UInt8)≤c0)) then
 bif (decide (c0≤(122:UInt8))) then
 qf (bits .or .i64 (bits .or .i64 (0:Int) (1:Int)) (656:Int))
 else
 qf (bits .or .i64 (0:Int) (1:Int))
 else
 qf (bits .or .i64 (0:Int) (1:Int))
 else
 bif (decide ((65:UInt8)≤c0)) then
 bif (decide (c0≤(90:UInt8))) then
 bif (decide (c0≤(90:UInt8))) then
 qf (bits .or .i64 (bits .or .i64 (0:Int) (1:Int)) (656:Int))
 else
 qf (bits .or .i64 (0:Int) (1:Int))
 else
 bif (decide ((97:UInt8)≤c0)) then
 bif (decide (c0≤(122:UInt8))) then
 qf (bits .or .i64 (bits .or .i64 (0:Int) (1:Int)) (656:Int))
 else
 qf (bits .or .i64 (0:Int) (1:Int))
 else
 qf (bits .or .i64 (0:Int) (1:Int))
 else
 bif (decide ((97:UInt8)≤c0)) then
 bif (decide (c0≤(122:UInt8))) then
 qf (bits .or .i64 (bits .or .i64 (0:Int) (1:Int)) (656:Int))
 else
 qf (bits .or .i64 (0:Int) (1:Int))
 else
 qf (bits .or .i64 (0:Int) (1:Int))
 else
 bif (c0==(127:UInt8)) then
 bif (c0==(32:UInt8)) then
 qf (bits .or .i64 (bits .or .i64 (0:Int) (1:Int)) (2:Int))
 else
 bif (c0==(9:UInt8)) then
 qf (bits .or .i64 (bits .or .i64 (0:Int) (1:Int)) (2:Int))
 else
 bif (decide ((48:UInt8)≤c0)) then
 bif (decide (c0≤(57:UInt8))) then
 qf (bits .or .i64 (bits .or .i64 (0:Int) (1:Int)) (648:Int))
 else
 bif (decide ((65:UInt8)≤c0)) then
 bif (decide (c0≤(90:UInt8))) then
 bif (decide (c0≤(90:UInt8))) then
 qf (bits .or .i64 (bits .or .i64 (0:Int) (1:Int)) (656:Int))
 else
 qf (bits .or .i64 (0:Int) (1:Int))
 else
 bif (decide ((97:UInt8)≤c0)) then
 bif (decide (c0≤(122:UInt8))) then
 qf (bits .or .i64 (bits .or .i64 (0:Int) (1:Int)) (656:Int))
 else
 qf (bits .or .i64 (0:Int) (1:Int))
 else
 qf (bits .or .i64 (0:Int) (1:Int))
 else
 bif (decide ((97:UInt8)≤c0)) then
 bif (decide (c0≤(122:UInt8))) then
 qf (bits .or .i64 (bits .or .i64 (0:Int) (1:Int)) (656:Int))
 else
 qf (bits .or .i64 (0:Int) (1:Int))
 else
 qf (bits .or .i64 (0:Int) (1:Int))
 else
 bif (decide ((65:UInt8)≤c0)) then
 bif (decide (c0≤(90:UInt8))) then
 bif (decide (c0≤(90:UInt8))) then
 qf (bits .or .i64 (bits .or .i64 (0:Int) (1:Int)) (656:Int))
 else
 qf (bits .or .i64 (0:Int) (1:Int))
 else
 bif (decide ((97:UInt8)≤c0)) then
 bif (decide (c0≤(122:UInt8))) then
 qf (bits .or .i64 (bits .or .i64 (0:Int) (1:Int)) (656:Int))
 else
 qf (bits .or .i64 (0:Int) (1:Int))
 else
 qf (bits .or .i64 (0:Int) (1:Int))
 else
 bif (decide ((97:UInt8)≤c0)) then
 bif (decide (c0≤(122:UInt8))) then
 qf (bits .or .i64 (bits .or .i64 (0:Int) (1:Int)) (656:Int))
 else
 qf (bits .or .i64 (0:Int) (1:Int))
 else
 qf (bits .or .i64 (0:Int) (1:Int))
 else
 bif (c0==(32:UInt8)) then
 qf (bits .or .i64 (0:Int) (2:Int))
 else
 bif (c0==(9:UInt8)) then
 qf (bits .or .i64 (0:Int) (2:Int))
 else
 bif (decide ((48:UInt8)≤c0)) then
 bif (decide (c0≤(57:UInt8))) then
 qf (bits .or .i64 (0:Int) (648:Int))
 else
 bif (decide ((65:UInt8)≤c0)) then
 bif (decide (c0≤(90:UInt8))) then
 bif (decide (c0≤(90:UInt8))) then
 qf (bits .or .i64 (0:Int) (656:Int))
 else
 qf (0:Int)
 else
 bif (decide ((97:UInt8)≤c0)) then
 bif (decide (c0≤(122:UInt8))) then
 qf (bits .or .i64 (0:Int) (656:Int))
 else
 qf (0:Int)
 else
 qf (0:Int)
 else
 bif (decide ((97:UInt8)≤c0)) then
 bif (decide (c0≤(122:UInt8))) then
 qf (bits .or .i64 (0:Int) (656:Int))
 else
 qf (0:Int)
 else
 qf (0:Int)
 else
 bif (decide ((65:UInt8)≤c0)) then
 bif (decide (c0≤(90:UInt8))) then
 bif (decide (c0≤(90:UInt8))) then
 qf (bits .or .i64 (0:Int) (656:Int))
 else
 qf (0:Int)
 else
 bif (decide ((97:UInt8)≤c0)) then
 bif (decide (c0≤(122:UInt8))) then
 qf (bits .or .i64 (0:Int) (656:Int))
 else
 qf (0:Int)
 else
 qf (0:Int)
 else
 bif (decide ((97:UInt8)≤c0)) then
 bif (decide (c0≤(122:UInt8))) then
 qf (bits .or .i64 (0:Int) (656:Int))
 else
 qf (0:Int)
 else
 qf (0:Int)
def qqd (s4:Int):Option AV:=some (.dat (.int .i64) s4 none)
def quX (_n:Nat) (s0:List UInt8) (c1:UInt8):Option AV :=
 qqd (z241 s0 c1)
def qqe (s4:Int):Option AV:=some (.dat (.int .i64) s4 none)
def quY (_n:Nat) (s0:List UInt8) (c1:UInt8):Option AV :=
 qqe (z229 s0 c1)
def qqf (s4:Bool):Option AV:=some (.dat .bool s4 none)
def quZ (_n:Nat) (s0:List UInt8) (c1:UInt8):Option AV :=
 qqf (decide ((0:Int)≤(z192 s0 c1)))
def qU (s2:Int):Option AV:=some (.dat (.int .i64) s2 none)
def qqg (_n:Nat) (c0:UInt8):Option AV :=
 bif (decide (c0 < (33:UInt8))) then
 qU (z214 c0)
 else
 bif (decide ((126:UInt8) < c0)) then
 qU (z214 c0)
 else
 bif (z215 ([33,42,43,45,47]:List UInt8) c0) then
 bif (z215 ([43,47]:List UInt8) c0) then
 bif (z215 ([40,41,60,62,64,44,59,58,92,34,47,91,93,63,61]:List UInt8) c0) then
 qU (bits .or .i64 (bits .or .i64 (bits .or .i64 (bits .or .i64 (z214 c0) (4:Int)) (128:Int)) (512:Int)) (32:Int))
 else
 bif (!(z215 ([42,39,37]:List UInt8) c0)) then
 qU (bits .or .i64 (bits .or .i64 (bits .or .i64 (bits .or .i64 (bits .or .i64 (z214 c0) (4:Int)) (128:Int)) (512:Int)) (64:Int)) (256:Int))
 else
 qU (bits .or .i64 (bits .or .i64 (bits .or .i64 (bits .or .i64 (z214 c0) (4:Int)) (128:Int)) (512:Int)) (64:Int))
 else
 bif (z215 ([40,41,60,62,64,44,59,58,92,34,47,91,93,63,61]:List UInt8) c0) then
 qU (bits .or .i64 (bits .or .i64 (bits .or .i64 (z214 c0) (4:Int)) (128:Int)) (32:Int))
 else
 bif (!(z215 ([42,39,37]:List UInt8) c0)) then
 qU (bits .or .i64 (bits .or .i64 (bits .or .i64 (bits .or .i64 (z214 c0) (4:Int)) (128:Int)) (64:Int)) (256:Int))
 else
 qU (bits .or .i64 (bits .or .i64 (bits .or .i64 (z214 c0) (4:Int)) (128:Int)) (64:Int))
 else
 bif (z215 ([43,47]:List UInt8) c0) then
 bif (z215 ([40,41,60,62,64,44,59,58,92,34,47,91,93,63,61]:List UInt8) c0) then
 qU (bits .or .i64 (bits .or .i64 (bits .or .i64 (z214 c0) (4:Int)) (512:Int)) (32:Int))
 else
 bif (!(z215 ([42,39,37]:List UInt8) c0)) then
 qU (bits .or .i64 (bits .or .i64 (bits .or .i64 (bits .or .i64 (z214 c0) (4:Int)) (512:Int)) (64:Int)) (256:Int))
 else
 qU (bits .or .i64 (bits .or .i64 (bits .or .i64 (z214 c0) (4:Int)) (512:Int)) (64:Int))
 else
 bif (z215 ([40,41,60,62,64,44,59,58,92,34,47,91,93,63,61]:List UInt8) c0) then
 qU (bits .or .i64 (bits .or .i64 (z214 c0) (4:Int)) (32:Int))
 else
 bif (!(z215 ([42,39,37]:List UInt8) c0)) then
 qU (bits .or .i64 (bits .or .i64 (bits .or .i64 (z214 c0) (4:Int)) (64:Int)) (256:Int))
 else
 qU (bits .or .i64 (bits .or .i64 (z214 c0) (4:Int)) (64:Int))
def qqh (s4:Bool):Option AV:=some (.dat .bool s4 none)
def qva (_n:Nat) (c0:UInt8) (kinds1:Int):Option AV :=
 qqh ((bits .and .i64 (z180 c0) kinds1) != (0:Int))
def qqi (s4:Int):Option AV:=some (.dat (.int .i64) s4 none)
def qcg (k0:Int→Option AV) (next:Int→Int→List UInt8→Int→Int→Option AV) (_n:Nat) (kinds1:Int) (n5:Int) (s8:List UInt8) (s9:Int) (s10:Int):Option AV :=
 bif (decide (s10 < s9)) then
 bif ((decide ((0:Int)≤s10))&&(decide (s10 < (List.length s8:Nat)))) then
 bif (z129 (List.getD s8 (Int.toNat s10) (0:UInt8)) kinds1) then
 next kinds1 (IntKind.wrap .i64 (n5+(1:Int))) s8 s9 (IntKind.wrap .i64 (s10+(1:Int)))
 else
 next kinds1 n5 s8 s9 (IntKind.wrap .i64 (s10+(1:Int)))
 else none
 else
 k0 n5
def qdn (k0:Int→Option AV):Nat→Int→Int→List UInt8→Int→Int→Option AV
 | 0=>fun _ _ _ _ _=>none
 | n+1=>qcg k0 (qdn k0 n) n
def qdo (_n:Nat) (n5:Int):Option AV :=
 qqi n5
def qll (n:Nat) (s0:List UInt8) (kinds1:Int):Option AV :=
 qdn (qdo n) n kinds1 (0:Int) s0 ((List.length s0:Nat):Int) (0:Int)
def qqj (s4:Bool):Option AV:=some (.dat .bool s4 none)
def qxd (_n:Nat) (s0:List UInt8) (kinds1:Int):Option AV :=
 bif ((qlG s0 kinds1)&&true) then
 qqj ((z127 s0 kinds1)==((List.length s0:Nat):Int))
 else none
def qqk (s4:Bool):Option AV:=some (.dat .bool s4 none)
def qxe (_n:Nat) (s0:List UInt8) (kinds1:Int):Option AV :=
 bif (decide ((0:Int) < ((List.length s0:Nat):Int))) then
 bif ((quG s0 kinds1)&&true) then
 qqk (z80 s0 kinds1)
 else none
 else
 qqk false
def qA (s2:(List UInt8)×(Int×((List UInt8)×Unit))) (s3:Int):Option AV:=some (.tup [(.dat (.pair (.sl .byte) (.pair (.int .i64) (.pair (.sl .byte) .unit))) s2 none),(.dat (.int .i64) s3 none)])
def qxf (_n:Nat) (s0:List UInt8):Option AV :=
 bif ((qrn s0 ([(63:UInt8)]:List UInt8))&&true) then
 bif (((List.length (z37 s0 ([(63:UInt8)]:List UInt8)):Nat):Int) != (5:Int)) then
 qA (([]:List UInt8),((0:Int),(([]:List UInt8),()))) (3:Int)
 else
 bif ((decide ((0:Int)≤(0:Int)))&&(decide ((0:Int) < (List.length (z37 s0 ([(63:UInt8)]:List UInt8)):Nat)))) then
 bif ((List.getD (z37 s0 ([(63:UInt8)]:List UInt8)) (Int.toNat (0:Int)) ([]:List UInt8)) != ([61]:List UInt8)) then
 qA (([]:List UInt8),((0:Int),(([]:List UInt8),()))) (3:Int)
 else
 bif ((decide ((0:Int)≤(4:Int)))&&(decide ((4:Int) < (List.length (z37 s0 ([(63:UInt8)]:List UInt8)):Nat)))) then
 bif ((List.getD (z37 s0 ([(63:UInt8)]:List UInt8)) (Int.toNat (4:Int)) ([]:List UInt8)) != ([61]:List UInt8)) then
 qA (([]:List UInt8),((0:Int),(([]:List UInt8),()))) (3:Int)
 else
 bif ((decide ((0:Int)≤(1:Int)))&&(decide ((1:Int) < (List.length (z37 s0 ([(63:UInt8)]:List UInt8)):Nat)))) then
 bif ((decide ((0:Int)≤(2:Int)))&&(decide ((2:Int) < (List.length (z37 s0 ([(63:UInt8)]:List UInt8)):Nat)))) then
 bif ((decide ((0:Int)≤(3:Int)))&&(decide ((3:Int) < (List.length (z37 s0 ([(63:UInt8)]:List UInt8)):Nat)))) then
 both (
 bif ((qcK (List.getD (z37 s0 ([(63:UInt8)]:List UInt8)) (Int.toNat (1:Int)) ([]:List UInt8)))&&true) then
 both (
 bif ((qmO (List.getD (z37 s0 ([(63:UInt8)]:List UInt8)) (Int.toNat (2:Int)) ([]:List UInt8)))&&true) then
 both (
 bif ((qcK (List.getD (z37 s0 ([(63:UInt8)]:List UInt8)) (Int.toNat (3:Int)) ([]:List UInt8)))&&true) then
 both (
 bif (((z38 (List.getD (z37 s0 ([(63:UInt8)]:List UInt8)) (Int.toNat (1:Int)) ([]:List UInt8))),((z39 (List.getD (z37 s0 ([(63:UInt8)]:List UInt8)) (Int.toNat (2:Int)) ([]:List UInt8))),((z38 (List.getD (z37 s0 ([(63:UInt8)]:List UInt8)) (Int.toNat (3:Int)) ([]:List UInt8))),()))).2.1==(0:Int)) then
 qA (([]:List UInt8),((0:Int),(([]:List UInt8),()))) (3:Int)
 else
 bif ((qdx ((z38 (List.getD (z37 s0 ([(63:UInt8)]:List UInt8)) (Int.toNat (1:Int)) ([]:List UInt8))),((z39 (List.getD (z37 s0 ([(63:UInt8)]:List UInt8)) (Int.toNat (2:Int)) ([]:List UInt8))),((z38 (List.getD (z37 s0 ([(63:UInt8)]:List UInt8)) (Int.toNat (3:Int)) ([]:List UInt8))),()))).1 (64:Int))&&true) then
 bif (!(z40 ((z38 (List.getD (z37 s0 ([(63:UInt8)]:List UInt8)) (Int.toNat (1:Int)) ([]:List UInt8))),((z39 (List.getD (z37 s0 ([(63:UInt8)]:List UInt8)) (Int.toNat (2:Int)) ([]:List UInt8))),((z38 (List.getD (z37 s0 ([(63:UInt8)]:List UInt8)) (Int.toNat (3:Int)) ([]:List UInt8))),()))).1 (64:Int))) then
 qA (([]:List UInt8),((0:Int),(([]:List UInt8),()))) (3:Int)
 else
 bif ((qdx ((z38 (List.getD (z37 s0 ([(63:UInt8)]:List UInt8)) (Int.toNat (1:Int)) ([]:List UInt8))),((z39 (List.getD (z37 s0 ([(63:UInt8)]:List UInt8)) (Int.toNat (2:Int)) ([]:List UInt8))),((z38 (List.getD (z37 s0 ([(63:UInt8)]:List UInt8)) (Int.toNat (3:Int)) ([]:List UInt8))),()))).2.2.1 (4:Int))&&true) then
 bif (!(z40 ((z38 (List.getD (z37 s0 ([(63:UInt8)]:List UInt8)) (Int.toNat (1:Int)) ([]:List UInt8))),((z39 (List.getD (z37 s0 ([(63:UInt8)]:List UInt8)) (Int.toNat (2:Int)) ([]:List UInt8))),((z38 (List.getD (z37 s0 ([(63:UInt8)]:List UInt8)) (Int.toNat (3:Int)) ([]:List UInt8))),()))).2.2.1 (4:Int))) then
 qA (([]:List UInt8),((0:Int),(([]:List UInt8),()))) (3:Int)
 else
 bif (decide ((75:Int) < ((List.length s0:Nat):Int))) then
 qA (([]:List UInt8),((0:Int),(([]:List UInt8),()))) (12:Int)
 else
 qA ((z38 (List.getD (z37 s0 ([(63:UInt8)]:List UInt8)) (Int.toNat (1:Int)) ([]:List UInt8))),((z39 (List.getD (z37 s0 ([(63:UInt8)]:List UInt8)) (Int.toNat (2:Int)) ([]:List UInt8))),((z38 (List.getD (z37 s0 ([(63:UInt8)]:List UInt8)) (Int.toNat (3:Int)) ([]:List UInt8))),()))) (0:Int)
 else none
 else none) (
 bif (((z38 (List.getD (z37 s0 ([(63:UInt8)]:List UInt8)) (Int.toNat (1:Int)) ([]:List UInt8))),((z39 (List.getD (z37 s0 ([(63:UInt8)]:List UInt8)) (Int.toNat (2:Int)) ([]:List UInt8))),((z38 (List.getD (z37 s0 ([(63:UInt8)]:List UInt8)) (Int.toNat (3:Int)) ([]:List UInt8))),()))).2.1==(0:Int)) then
 qA (([]:List UInt8),((0:Int),(([]:List UInt8),()))) (3:Int)
 else
 bif ((qdx ((z38 (List.getD (z37 s0 ([(63:UInt8)]:List UInt8)) (Int.toNat (1:Int)) ([]:List UInt8))),((z39 (List.getD (z37 s0 ([(63:UInt8)]:List UInt8)) (Int.toNat (2:Int)) ([]:List UInt8))),((z38 (List.getD (z37 s0 ([(63:UInt8)]:List UInt8)) (Int.toNat (3:Int)) ([]:List UInt8))),()))).1 (64:Int))&&true) then
 bif (!(z40 ((z38 (List.getD (z37 s0 ([(63:UInt8)]:List UInt8)) (Int.toNat (1:Int)) ([]:List UInt8))),((z39 (List.getD (z37 s0 ([(63:UInt8)]:List UInt8)) (Int.toNat (2:Int)) ([]:List UInt8))),((z38 (List.getD (z37 s0 ([(63:UInt8)]:List UInt8)) (Int.toNat (3:Int)) ([]:List UInt8))),()))).1 (64:Int))) then
 qA (([]:List UInt8),((0:Int),(([]:List UInt8),()))) (3:Int)
 else
 bif ((qdx ((z38 (List.getD (z37 s0 ([(63:UInt8)]:List UInt8)) (Int.toNat (1:Int)) ([]:List UInt8))),((z39 (List.getD (z37 s0 ([(63:UInt8)]:List UInt8)) (Int.toNat (2:Int)) ([]:List UInt8))),((z38 (List.getD (z37 s0 ([(63:UInt8)]:List UInt8)) (Int.toNat (3:Int)) ([]:List UInt8))),()))).2.2.1 (4:Int))&&true) then
 bif (!(z40 ((z38 (List.getD (z37 s0 ([(63:UInt8)]:List UInt8)) (Int.toNat (1:Int)) ([]:List UInt8))),((z39 (List.getD (z37 s0 ([(63:UInt8)]:List UInt8)) (Int.toNat (2:Int)) ([]:List UInt8))),((z38 (List.getD (z37 s0 ([(63:UInt8)]:List UInt8)) (Int.toNat (3:Int)) ([]:List UInt8))),()))).2.2.1 (4:Int))) then
 qA (([]:List UInt8),((0:Int),(([]:List UInt8),()))) (3:Int)
 else
 bif (decide ((75:Int) < ((List.length s0:Nat):Int))) then
 qA (([]:List UInt8),((0:Int),(([]:List UInt8),()))) (12:Int)
 else
 qA ((z38 (List.getD (z37 s0 ([(63:UInt8)]:List UInt8)) (Int.toNat (1:Int)) ([]:List UInt8))),((z39 (List.getD (z37 s0 ([(63:UInt8)]:List UInt8)) (Int.toNat (2:Int)) ([]:List UInt8))),((z38 (List.getD (z37 s0 ([(63:UInt8)]:List UInt8)) (Int.toNat (3:Int)) ([]:List UInt8))),()))) (0:Int)
 else none
 else none)
 else none) (
 bif ((qcK (List.getD (z37 s0 ([(63:UInt8)]:List UInt8)) (Int.toNat (3:Int)) ([]:List UInt8)))&&true) then
 bif (((z38 (List.getD (z37 s0 ([(63:UInt8)]:List UInt8)) (Int.toNat (1:Int)) ([]:List UInt8))),((z39 (List.getD (z37 s0 ([(63:UInt8)]:List UInt8)) (Int.toNat (2:Int)) ([]:List UInt8))),((z38 (List.getD (z37 s0 ([(63:UInt8)]:List UInt8)) (Int.toNat (3:Int)) ([]:List UInt8))),()))).2.1==(0:Int)) then
 qA (([]:List UInt8),((0:Int),(([]:List UInt8),()))) (3:Int)
 else
 bif ((qdx ((z38 (List.getD (z37 s0 ([(63:UInt8)]:List UInt8)) (Int.toNat (1:Int)) ([]:List UInt8))),((z39 (List.getD (z37 s0 ([(63:UInt8)]:List UInt8)) (Int.toNat (2:Int)) ([]:List UInt8))),((z38 (List.getD (z37 s0 ([(63:UInt8)]:List UInt8)) (Int.toNat (3:Int)) ([]:List UInt8))),()))).1 (64:Int))&&true) then
 bif (!(z40 ((z38 (List.getD (z37 s0 ([(63:UInt8)]:List UInt8)) (Int.toNat (1:Int)) ([]:List UInt8))),((z39 (List.getD (z37 s0 ([(63:UInt8)]:List UInt8)) (Int.toNat (2:Int)) ([]:List UInt8))),((z38 (List.getD (z37 s0 ([(63:UInt8)]:List UInt8)) (Int.toNat (3:Int)) ([]:List UInt8))),()))).1 (64:Int))) then
 qA (([]:List UInt8),((0:Int),(([]:List UInt8),()))) (3:Int)
 else
 bif ((qdx ((z38 (List.getD (z37 s0 ([(63:UInt8)]:List UInt8)) (Int.toNat (1:Int)) ([]:List UInt8))),((z39 (List.getD (z37 s0 ([(63:UInt8)]:List UInt8)) (Int.toNat (2:Int)) ([]:List UInt8))),((z38 (List.getD (z37 s0 ([(63:UInt8)]:List UInt8)) (Int.toNat (3:Int)) ([]:List UInt8))),()))).2.2.1 (4:Int))&&true) then
 bif (!(z40 ((z38 (List.getD (z37 s0 ([(63:UInt8)]:List UInt8)) (Int.toNat (1:Int)) ([]:List UInt8))),((z39 (List.getD (z37 s0 ([(63:UInt8)]:List UInt8)) (Int.toNat (2:Int)) ([]:List UInt8))),((z38 (List.getD (z37 s0 ([(63:UInt8)]:List UInt8)) (Int.toNat (3:Int)) ([]:List UInt8))),()))).2.2.1 (4:Int))) then
 qA (([]:List UInt8),((0:Int),(([]:List UInt8),()))) (3:Int)
 else
 bif (decide ((75:Int) < ((List.length s0:Nat):Int))) then
 qA (([]:List UInt8),((0:Int),(([]:List UInt8),()))) (12:Int)
 else
 qA ((z38 (List.getD (z37 s0 ([(63:UInt8)]:List UInt8)) (Int.toNat (1:Int)) ([]:List UInt8))),((z39 (List.getD (z37 s0 ([(63:UInt8)]:List UInt8)) (Int.toNat (2:Int)) ([]:List UInt8))),((z38 (List.getD (z37 s0 ([(63:UInt8)]:List UInt8)) (Int.toNat (3:Int)) ([]:List UInt8))),()))) (0:Int)
 else none
 else none
 else none)
 else none) (
 bif ((qmO (List.getD (z37 s0 ([(63:UInt8)]:List UInt8)) (Int.toNat (2:Int)) ([]:List UInt8)))&&true) then
 bif ((qcK (List.getD (z37 s0 ([(63:UInt8)]:List UInt8)) (Int.toNat (3:Int)) ([]:List UInt8)))&&true) then
 bif (((z38 (List.getD (z37 s0 ([(63:UInt8)]:List UInt8)) (Int.toNat (1:Int)) ([]:List UInt8))),((z39 (List.getD (z37 s0 ([(63:UInt8)]:List UInt8)) (Int.toNat (2:Int)) ([]:List UInt8))),((z38 (List.getD (z37 s0 ([(63:UInt8)]:List UInt8)) (Int.toNat (3:Int)) ([]:List UInt8))),()))).2.1==(0:Int)) then
 qA (([]:List UInt8),((0:Int),(([]:List UInt8),()))) (3:Int)
 else
 bif ((qdx ((z38 (List.getD (z37 s0 ([(63:UInt8)]:List UInt8)) (Int.toNat (1:Int)) ([]:List UInt8))),((z39 (List.getD (z37 s0 ([(63:UInt8)]:List UInt8)) (Int.toNat (2:Int)) ([]:List UInt8))),((z38 (List.getD (z37 s0 ([(63:UInt8)]:List UInt8)) (Int.toNat (3:Int)) ([]:List UInt8))),()))).1 (64:Int))&&true) then
 bif (!(z40 ((z38 (List.getD (z37 s0 ([(63:UInt8)]:List UInt8)) (Int.toNat (1:Int)) ([]:List UInt8))),((z39 (List.getD (z37 s0 ([(63:UInt8)]:List UInt8)) (Int.toNat (2:Int)) ([]:List UInt8))),((z38 (List.getD (z37 s0 ([(63:UInt8)]:List UInt8)) (Int.toNat (3:Int)) ([]:List UInt8))),()))).1 (64:Int))) then
 qA (([]:List UInt8),((0:Int),(([]:List UInt8),()))) (3:Int)
 else
 bif ((qdx ((z38 (List.getD (z37 s0 ([(63:UInt8)]:List UInt8)) (Int.toNat (1:Int)) ([]:List UInt8))),((z39 (List.getD (z37 s0 ([(63:UInt8)]:List UInt8)) (Int.toNat (2:Int)) ([]:List UInt8))),((z38 (List.getD (z37 s0 ([(63:UInt8)]:List UInt8)) (Int.toNat (3:Int)) ([]:List UInt8))),()))).2.2.1 (4:Int))&&true) then
 bif (!(z40 ((z38 (List.getD (z37 s0 ([(63:UInt8)]:List UInt8)) (Int.toNat (1:Int)) ([]:List UInt8))),((z39 (List.getD (z37 s0 ([(63:UInt8)]:List UInt8)) (Int.toNat (2:Int)) ([]:List UInt8))),((z38 (List.getD (z37 s0 ([(63:UInt8)]:List UInt8)) (Int.toNat (3:Int)) ([]:List UInt8))),()))).2.2.1 (4:Int))) then
 qA (([]:List UInt8),((0:Int),(([]:List UInt8),()))) (3:Int)
 else
 bif (decide ((75:Int) < ((List.length s0:Nat):Int))) then
 qA (([]:List UInt8),((0:Int),(([]:List UInt8),()))) (12:Int)
 else
 qA ((z38 (List.getD (z37 s0 ([(63:UInt8)]:List UInt8)) (Int.toNat (1:Int)) ([]:List UInt8))),((z39 (List.getD (z37 s0 ([(63:UInt8)]:List UInt8)) (Int.toNat (2:Int)) ([]:List UInt8))),((z38 (List.getD (z37 s0 ([(63:UInt8)]:List UInt8)) (Int.toNat (3:Int)) ([]:List UInt8))),()))) (0:Int)
 else none
 else none
 else none
 else none)
 else none) (
 bif ((qcK (List.getD (z37 s0 ([(63:UInt8)]:List UInt8)) (Int.toNat (1:Int)) ([]:List UInt8)))&&true) then
 bif ((qmO (List.getD (z37 s0 ([(63:UInt8)]:List UInt8)) (Int.toNat (2:Int)) ([]:List UInt8)))&&true) then
 bif ((qcK (List.getD (z37 s0 ([(63:UInt8)]:List UInt8)) (Int.toNat (3:Int)) ([]:List UInt8)))&&true) then
 bif (((z38 (List.getD (z37 s0 ([(63:UInt8)]:List UInt8)) (Int.toNat (1:Int)) ([]:List UInt8))),((z39 (List.getD (z37 s0 ([(63:UInt8)]:List UInt8)) (Int.toNat (2:Int)) ([]:List UInt8))),((z38 (List.getD (z37 s0 ([(63:UInt8)]:List UInt8)) (Int.toNat (3:Int)) ([]:List UInt8))),()))).2.1==(0:Int)) then
 qA (([]:List UInt8),((0:Int),(([]:List UInt8),()))) (3:Int)
 else
 bif ((qdx ((z38 (List.getD (z37 s0 ([(63:UInt8)]:List UInt8)) (Int.toNat (1:Int)) ([]:List UInt8))),((z39 (List.getD (z37 s0 ([(63:UInt8)]:List UInt8)) (Int.toNat (2:Int)) ([]:List UInt8))),((z38 (List.getD (z37 s0 ([(63:UInt8)]:List UInt8)) (Int.toNat (3:Int)) ([]:List UInt8))),()))).1 (64:Int))&&true) then
 bif (!(z40 ((z38 (List.getD (z37 s0 ([(63:UInt8)]:List UInt8)) (Int.toNat (1:Int)) ([]:List UInt8))),((z39 (List.getD (z37 s0 ([(63:UInt8)]:List UInt8)) (Int.toNat (2:Int)) ([]:List UInt8))),((z38 (List.getD (z37 s0 ([(63:UInt8)]:List UInt8)) (Int.toNat (3:Int)) ([]:List UInt8))),()))).1 (64:Int))) then
 qA (([]:List UInt8),((0:Int),(([]:List UInt8),()))) (3:Int)
 else
 bif ((qdx ((z38 (List.getD (z37 s0 ([(63:UInt8)]:List UInt8)) (Int.toNat (1:Int)) ([]:List UInt8))),((z39 (List.getD (z37 s0 ([(63:UInt8)]:List UInt8)) (Int.toNat (2:Int)) ([]:List UInt8))),((z38 (List.getD (z37 s0 ([(63:UInt8)]:List UInt8)) (Int.toNat (3:Int)) ([]:List UInt8))),()))).2.2.1 (4:Int))&&true) then
 bif (!(z40 ((z38 (List.getD (z37 s0 ([(63:UInt8)]:List UInt8)) (Int.toNat (1:Int)) ([]:List UInt8))),((z39 (List.getD (z37 s0 ([(63:UInt8)]:List UInt8)) (Int.toNat (2:Int)) ([]:List UInt8))),((z38 (List.getD (z37 s0 ([(63:UInt8)]:List UInt8)) (Int.toNat (3:Int)) ([]:List UInt8))),()))).2.2.1 (4:Int))) then
 qA (([]:List UInt8),((0:Int),(([]:List UInt8),()))) (3:Int)
 else
 bif (decide ((75:Int) < ((List.length s0:Nat):Int))) then
 qA (([]:List UInt8),((0:Int),(([]:List UInt8),()))) (12:Int)
 else
 qA ((z38 (List.getD (z37 s0 ([(63:UInt8)]:List UInt8)) (Int.toNat (1:Int)) ([]:List UInt8))),((z39 (List.getD (z37 s0 ([(63:UInt8)]:List UInt8)) (Int.toNat (2:Int)) ([]:List UInt8))),((z38 (List.getD (z37 s0 ([(63:UInt8)]:List UInt8)) (Int.toNat (3:Int)) ([]:List UInt8))),()))) (0:Int)
 else none
 else none
 else none
 else none
 else none)
 else none
 else none
 else none
 else none
 else none
 else none
def qvb (s2:Bool):Option AV:=some (.dat .bool s2 none)
def qxg (_n:Nat) (s0:List UInt8):Option AV :=
 bif ((qiT s0)&&true) then
 qvb (((z11 s0).2)==(0:Int))
 else none
def qql (s2:Bool):Option AV:=some (.dat .bool s2 none)
def qxh (_n:Nat) (n0:Int):Option AV :=
 bif (decide ((1:Int)≤n0)) then
 qql (decide (n0≤(5:Int)))
 else
 qql false
def qlm (s2:List UInt8):Option AV:=some (.dat .str s2 none)
def qxi (_n:Nat) (n0:Int):Option AV :=
 bif (n0==(1:Int)) then
 qlm ([66]:List UInt8)
 else
 bif (n0==(2:Int)) then
 qlm ([81]:List UInt8)
 else
 qlm ([]:List UInt8)
def qln (s2:Int):Option AV:=some (.dat (.int .i64) s2 none)
def qxj (_n:Nat) (c0:UInt8):Option AV :=
 bif (c0==(32:UInt8)) then
 qln (1:Int)
 else
 bif (z129 c0 (128:Int)) then
 qln (1:Int)
 else
 qln (3:Int)
def qvc (s2:Int):Option AV:=some (.dat (.int .i64) s2 none)
def qdU (k0:Int→Option AV) (next:Int→List UInt8→Int→Int→Option AV) (_n:Nat) (n3:Int) (s6:List UInt8) (s7:Int) (s8:Int):Option AV :=
 bif (decide (s8 < s7)) then
 bif ((decide ((0:Int)≤s8))&&(decide (s8 < (List.length s6:Nat)))) then
 next (IntKind.wrap .i64 (n3+(z84 (List.getD s6 (Int.toNat s8) (0:UInt8))))) s6 s7 (IntKind.wrap .i64 (s8+(1:Int)))
 else none
 else
 k0 n3
def qjS (k0:Int→Option AV):Nat→Int→List UInt8→Int→Int→Option AV
 | 0=>fun _ _ _ _=>none
 | n+1=>qdU k0 (qjS k0 n) n
def qfD (_n:Nat) (n3:Int):Option AV :=
 qvc n3
def qtL (n:Nat) (s0:List UInt8):Option AV :=
 qjS (qfD n) n (0:Int) s0 ((List.length s0:Nat):Int) (0:Int)
def qqm (s2:UInt8):Option AV:=some (.dat .byte s2 none)
def qqn (_n:Nat) (n0:Int):Option AV :=
 bif ((decide ((0:Int)≤(bits .and .i64 n0 (15:Int))))&&(decide ((bits .and .i64 n0 (15:Int)) < (List.length ([48,49,50,51,52,53,54,55,56,57,65,66,67,68,69,70]:List UInt8):Nat)))) then
 qqm (List.getD ([48,49,50,51,52,53,54,55,56,57,65,66,67,68,69,70]:List UInt8) (Int.toNat (bits .and .i64 n0 (15:Int))) (0:UInt8))
 else none
def qqo (s2:List UInt8):Option AV:=some (.dat (.sl .byte) s2 (some (2,5)))
def qqp (_n:Nat) (c0:UInt8):Option AV :=
 bif ((qcr (IntKind.wrap .i64 ((UInt8.toNat (UInt8.ofNat (UInt8.toNat c0 / 2 ^ (min (Int.toNat (4:Int)) 8))):Nat):Int)))&&true) then
 bif ((qcr (IntKind.wrap .i64 ((UInt8.toNat c0:Nat):Int)))&&true) then
 qqo ([(z181 (IntKind.wrap .i64 ((UInt8.toNat (UInt8.ofNat (UInt8.toNat c0 / 2 ^ (min (Int.toNat (4:Int)) 8))):Nat):Int))),(z181 (IntKind.wrap .i64 ((UInt8.toNat c0:Nat):Int)))]:List UInt8)
 else none
 else none
def qvd (s6:List UInt8):Option AV:=some (.dat (.sl .byte) s6 (some (6,5)))
def qxk (_n:Nat) (b0:List UInt8) (sign1:UInt8) (c2:UInt8):Option AV :=
 bif ((qcK b0)&&true) then
 bif (decide (List.length (z38 b0)+List.length ([sign1]:List UInt8)≤room)) then
 bif (decide (List.length ((z38 b0)++([sign1]:List UInt8))+List.length (z130 c2)≤room)) then
 qvd (((z38 b0)++([sign1]:List UInt8))++(z130 c2))
 else none
 else none
 else none
def qiI (s2:List UInt8):Option AV:=some (.dat (.sl .byte) s2 (some (2,5)))
def qdV (k0:List UInt8→Option AV) (next:List UInt8→List UInt8→Int→Int→Option AV) (_n:Nat) (out3:List UInt8) (s9:List UInt8) (s10:Int) (s11:Int):Option AV :=
 bif (decide (s11 < s10)) then
 bif ((decide ((0:Int)≤s11))&&(decide (s11 < (List.length s9:Nat)))) then
 bif ((List.getD s9 (Int.toNat s11) (0:UInt8))==(32:UInt8)) then
 bif (decide (List.length out3+List.length ([(95:UInt8)]:List UInt8)≤room)) then
 next (out3++([(95:UInt8)]:List UInt8)) s9 s10 (IntKind.wrap .i64 (s11+(1:Int)))
 else none
 else
 bif ((z84 (List.getD s9 (Int.toNat s11) (0:UInt8)))==(1:Int)) then
 bif (decide (List.length out3+List.length ([(List.getD s9 (Int.toNat s11) (0:UInt8))]:List UInt8)≤room)) then
 next (out3++([(List.getD s9 (Int.toNat s11) (0:UInt8))]:List UInt8)) s9 s10 (IntKind.wrap .i64 (s11+(1:Int)))
 else none
 else
 bif ((qtd out3 (61:UInt8) (List.getD s9 (Int.toNat s11) (0:UInt8)))&&true) then
 next (z85 out3 (61:UInt8) (List.getD s9 (Int.toNat s11) (0:UInt8))) s9 s10 (IntKind.wrap .i64 (s11+(1:Int)))
 else none
 else none
 else
 k0 out3
def qjT (k0:List UInt8→Option AV):Nat→List UInt8→List UInt8→Int→Int→Option AV
 | 0=>fun _ _ _ _=>none
 | n+1=>qdV k0 (qjT k0 n) n
def qfE (_n:Nat) (out3:List UInt8):Option AV :=
 qiI out3
def qtM (n:Nat) (s0:List UInt8):Option AV :=
 bif ((qmx s0)&&true) then
 bif (((decide ((0:Int)≤(0:Int)))&&(decide ((0:Int)≤(z83 s0))))&&(decide ((z83 s0)≤(room:Int)))) then
 qjT (qfE n) n (List.replicate (Int.toNat (0:Int)) (0:UInt8)) s0 ((List.length s0:Nat):Int) (0:Int)
 else none
 else none
def qqq (s2:UInt8):Option AV:=some (.dat .byte s2 none)
def qqr (_n:Nat) (n0:Int):Option AV :=
 bif ((decide ((0:Int)≤(bits .and .i64 n0 (63:Int))))&&(decide ((bits .and .i64 n0 (63:Int)) < (List.length ([65,66,67,68,69,70,71,72,73,74,75,76,77,78,79,80,81,82,83,84,85,86,87,88,89,90,97,98,99,100,101,102,103,104,105,106,107,108,109,110,111,112,113,114,115,116,117,118,119,120,121,122,48,49,50,51,52,53,54,55,56,57,43,47]:List UInt8):Nat)))) then
 qqq (List.getD ([65,66,67,68,69,70,71,72,73,74,75,76,77,78,79,80,81,82,83,84,85,86,87,88,89,90,97,98,99,100,101,102,103,104,105,106,107,108,109,110,111,112,113,114,115,116,117,118,119,120,121,122,48,49,50,51,52,53,54,55,56,57,43,47]:List UInt8) (Int.toNat (bits .and .i64 n0 (63:Int))) (0:UInt8))
 else none
def qiJ (s2:List UInt8):Option AV:=some (.dat (.sl .byte) s2 (some (2,5)))
def qqs (k2:List UInt8→Int→Int→List UInt8→Int→Int→Option AV) (next:List UInt8→Int→Int→List UInt8→Int→Int→Option AV) (_n:Nat) (out3:List UInt8) (held4:Int) (many5:Int) (s8:List UInt8) (s9:Int) (s10:Int):Option AV :=
 bif (decide ((6:Int)≤many5)) then
 bif (decide ((0:Int)≤(IntKind.wrap .i64 (many5 - (6:Int))))) then
 bif (decide (List.length out3+List.length ([(z132 (Int.fdiv held4 (2 ^ (min (Int.toNat (IntKind.wrap .i64 (many5 - (6:Int)))) (IntKind.bits .i64)))))]:List UInt8)≤room)) then
 next (out3++([(z132 (Int.fdiv held4 (2 ^ (min (Int.toNat (IntKind.wrap .i64 (many5 - (6:Int)))) (IntKind.bits .i64)))))]:List UInt8)) held4 (IntKind.wrap .i64 (many5 - (6:Int))) s8 s9 s10
 else none
 else none
 else
 k2 out3 held4 many5 s8 s9 s10
def qdW (k2:List UInt8→Int→Int→List UInt8→Int→Int→Option AV):Nat→List UInt8→Int→Int→List UInt8→Int→Int→Option AV
 | 0=>fun _ _ _ _ _ _=>none
 | n+1=>qqs k2 (qdW k2 n) n
def qbS (_k0:List UInt8→Int→Int→Option AV) (next:List UInt8→Int→Int→List UInt8→Int→Int→Option AV) (_n:Nat) (out3:List UInt8) (held4:Int) (many5:Int) (s8:List UInt8) (s9:Int) (s10:Int):Option AV :=
 bif (decide ((0:Int)≤many5)) then
 next out3 (bits .and .i64 held4 (IntKind.wrap .i64 ((IntKind.wrap .i64 ((1:Int)*2 ^ (min (Int.toNat many5) (IntKind.bits .i64)))) - (1:Int)))) many5 s8 s9 (IntKind.wrap .i64 (s10+(1:Int)))
 else none
def qcE (k0:List UInt8→Int→Int→Option AV) (next:List UInt8→Int→Int→List UInt8→Int→Int→Option AV) (n:Nat) (out3:List UInt8) (held4:Int) (many5:Int) (s8:List UInt8) (s9:Int) (s10:Int):Option AV :=
 bif (decide (s10 < s9)) then
 bif ((decide ((0:Int)≤s10))&&(decide (s10 < (List.length s8:Nat)))) then
 qdW (qbS k0 next n) n out3 (bits .or .i64 (IntKind.wrap .i64 (held4*2 ^ (min (Int.toNat (8:Int)) (IntKind.bits .i64)))) (IntKind.wrap .i64 ((UInt8.toNat (List.getD s8 (Int.toNat s10) (0:UInt8)):Nat):Int))) (IntKind.wrap .i64 (many5+(8:Int))) s8 s9 s10
 else none
 else
 k0 out3 held4 many5
def qjU (k0:List UInt8→Int→Int→Option AV):Nat→List UInt8→Int→Int→List UInt8→Int→Int→Option AV
 | 0=>fun _ _ _ _ _ _=>none
 | n+1=>qcE k0 (qjU k0 n) n
def qcF (_n:Nat) (out3:List UInt8) (held4:Int) (many5:Int):Option AV :=
 bif (decide ((0:Int) < many5)) then
 bif (decide ((0:Int)≤(IntKind.wrap .i64 ((6:Int) - many5)))) then
 bif (decide (List.length out3+List.length ([(z132 (IntKind.wrap .i64 (held4*2 ^ (min (Int.toNat (IntKind.wrap .i64 ((6:Int) - many5))) (IntKind.bits .i64)))))]:List UInt8)≤room)) then
 qiJ (out3++([(z132 (IntKind.wrap .i64 (held4*2 ^ (min (Int.toNat (IntKind.wrap .i64 ((6:Int) - many5))) (IntKind.bits .i64)))))]:List UInt8))
 else none
 else none
 else
 qiJ out3
def qtN (n:Nat) (s0:List UInt8):Option AV :=
 qjU (qcF n) n ([]:List UInt8) (0:Int) (0:Int) s0 ((List.length s0:Nat):Int) (0:Int)
def qcG (s2:List (List UInt8)):Option AV:=some (.dat (.sl .str) s2 (some (2,9)))
def qqt (_n:Nat) (charset0:Int):Option AV :=
 bif (charset0==(1:Int)) then
 qcG ([([117,115,45,97,115,99,105,105]:List UInt8),([97,115,99,105,105]:List UInt8),([97,110,115,105,95,120,51,46,52,45,49,57,54,56]:List UInt8),([105,115,111,54,52,54,45,117,115]:List UInt8)]:List (List UInt8))
 else
 bif (charset0==(2:Int)) then
 qcG ([([105,115,111,45,56,56,53,57,45,49]:List UInt8),([105,115,111,95,56,56,53,57,45,49]:List UInt8),([108,97,116,105,110,49]:List UInt8),([108,49]:List UInt8)]:List (List UInt8))
 else
 bif (charset0==(3:Int)) then
 qcG ([([105,115,111,45,56,56,53,57,45,49,53]:List UInt8),([105,115,111,95,56,56,53,57,45,49,53]:List UInt8),([108,97,116,105,110,45,57]:List UInt8)]:List (List UInt8))
 else
 bif (charset0==(4:Int)) then
 qcG ([([119,105,110,100,111,119,115,45,49,50,53,50]:List UInt8),([99,112,49,50,53,50]:List UInt8)]:List (List UInt8))
 else
 bif (charset0==(5:Int)) then
 qcG ([([117,116,102,45,56]:List UInt8),([117,116,102,56]:List UInt8)]:List (List UInt8))
 else
 qcG ([]:List (List UInt8))
def qqu (s2:List UInt8):Option AV:=some (.dat .str s2 none)
def qxl (_n:Nat) (charset0:Int):Option AV :=
 bif (((List.length (z133 charset0):Nat):Int)==(0:Int)) then
 qqu ([]:List UInt8)
 else
 bif ((decide ((0:Int)≤(0:Int)))&&(decide ((0:Int) < (List.length (z133 charset0):Nat)))) then
 qqu (List.getD (z133 charset0) (Int.toNat (0:Int)) ([]:List UInt8))
 else none
def qve (s4:List UInt8):Option AV:=some (.dat .str s4 none)
def qxm (_n:Nat) (charset0:Int) (code1:Int):Option AV :=
 bif (decide (List.length ([61,63]:List UInt8)+List.length (z89 charset0)≤9223372036854775807)) then
 bif (decide (List.length (([61,63]:List UInt8)++(z89 charset0))+List.length ([63]:List UInt8)≤9223372036854775807)) then
 bif (decide (List.length ((([61,63]:List UInt8)++(z89 charset0))++([63]:List UInt8))+List.length (z45 code1)≤9223372036854775807)) then
 bif (decide (List.length (((([61,63]:List UInt8)++(z89 charset0))++([63]:List UInt8))++(z45 code1))+List.length ([63]:List UInt8)≤9223372036854775807)) then
 qve ((((([61,63]:List UInt8)++(z89 charset0))++([63]:List UInt8))++(z45 code1))++([63]:List UInt8))
 else none
 else none
 else none
 else none
def qen (s6:List UInt8) (s7:Int):Option AV:=some (.tup [(.dat (.sl .byte) s6 none),(.dat (.int .i64) s7 none)])
def qxn (_n:Nat) (charset0:Int) (code1:Int) (s2:List UInt8):Option AV :=
 bif (!(z44 charset0)) then
 qen ([]:List UInt8) (10:Int)
 else
 bif ((z45 code1)==([]:List UInt8)) then
 qen ([]:List UInt8) (3:Int)
 else
 bif (((List.length s2:Nat):Int)==(0:Int)) then
 qen ([]:List UInt8) (3:Int)
 else
 bif ((qtm s2)&&true) then
 bif (code1==(1:Int)) then
 bif ((qwx s2)&&true) then
 bif (decide (List.length (z48 charset0 code1)≤room)) then
 bif (decide (List.length (z48 charset0 code1)+List.length (z47 s2)≤room)) then
 bif (decide (List.length ((z48 charset0 code1)++(z47 s2))+List.length ([63,61]:List UInt8)≤room)) then
 bif (decide ((75:Int) < ((List.length (((z48 charset0 code1)++(z47 s2))++([63,61]:List UInt8)):Nat):Int))) then
 qen ([]:List UInt8) (12:Int)
 else
 qen (((z48 charset0 code1)++(z47 s2))++([63,61]:List UInt8)) (0:Int)
 else none
 else none
 else none
 else none
 else
 bif (decide (List.length (z48 charset0 code1)≤room)) then
 bif (decide (List.length (z48 charset0 code1)+List.length (z46 s2)≤room)) then
 bif (decide (List.length ((z48 charset0 code1)++(z46 s2))+List.length ([63,61]:List UInt8)≤room)) then
 bif (decide ((75:Int) < ((List.length (((z48 charset0 code1)++(z46 s2))++([63,61]:List UInt8)):Nat):Int))) then
 qen ([]:List UInt8) (12:Int)
 else
 qen (((z48 charset0 code1)++(z46 s2))++([63,61]:List UInt8)) (0:Int)
 else none
 else none
 else none
 else none
def qiK (s2:Int):Option AV:=some (.dat (.int .i64) s2 none)
def qxo (_n:Nat) (charset0:Int):Option AV :=
 bif (!(z44 charset0)) then
 qiK (0:Int)
 else
 qiK (IntKind.wrap .i64 ((IntKind.wrap .i64 (((List.length (z48 charset0 (2:Int)):Nat):Int)+(1:Int)))+(1:Int)))
def qqv (s2:List Int):Option AV:=some (.dat (.sl (.int .i32)) s2 (some (2,21)))
def qdX (k0:List Int→Option AV) (next:List Int→List UInt8→Int→Int→Option AV) (_n:Nat) (t3:List Int) (s9:List UInt8) (s10:Int) (s11:Int):Option AV :=
 bif (decide (s11 < s10)) then
 bif ((decide ((0:Int)≤s11))&&(decide (s11 < (List.length s9:Nat)))) then
 bif ((decide ((0:Int)≤s11))&&(decide (s11 < (List.length t3:Nat)))) then
 next (List.set t3 (Int.toNat s11) (IntKind.wrap .i32 ((UInt8.toNat (List.getD s9 (Int.toNat s11) (0:UInt8)):Nat):Int))) s9 s10 (IntKind.wrap .i64 (s11+(1:Int)))
 else none
 else none
 else
 k0 t3
def qjV (k0:List Int→Option AV):Nat→List Int→List UInt8→Int→Int→Option AV
 | 0=>fun _ _ _ _=>none
 | n+1=>qdX k0 (qjV k0 n) n
def qfF (_n:Nat) (t3:List Int):Option AV :=
 qqv t3
def qtO (n:Nat) (s0:List UInt8):Option AV :=
 bif (((decide ((0:Int)≤((List.length s0:Nat):Int)))&&(decide (((List.length s0:Nat):Int)≤((List.length s0:Nat):Int))))&&(decide (((List.length s0:Nat):Int)≤(room:Int)))) then
 qjV (qfF n) n (List.replicate (Int.toNat ((List.length s0:Nat):Int)) (0:Int)) s0 ((List.length s0:Nat):Int) (0:Int)
 else none
def qjW (s2:Int):Option AV:=some (.dat (.int .i32) s2 none)
def qqw (_n:Nat) (c0:Int):Option AV :=
 bif (decide ((128:Int)≤c0)) then
 qjW (65533:Int)
 else
 qjW c0
def qqx (s2:List Int):Option AV:=some (.dat (.sl (.int .i32)) s2 (some (2,21)))
def qdY (k0:List Int→Option AV) (next:List Int→Int→Int→Option AV) (_n:Nat) (t3:List Int) (s10:Int) (s11:Int):Option AV :=
 bif (decide (s11 < s10)) then
 bif ((decide ((0:Int)≤s11))&&(decide (s11 < (List.length t3:Nat)))) then
 bif ((decide ((0:Int)≤s11))&&(decide (s11 < (List.length t3:Nat)))) then
 next (List.set t3 (Int.toNat s11) (z138 (List.getD t3 (Int.toNat s11) (0:Int)))) s10 (IntKind.wrap .i64 (s11+(1:Int)))
 else none
 else none
 else
 k0 t3
def qjX (k0:List Int→Option AV):Nat→List Int→Int→Int→Option AV
 | 0=>fun _ _ _=>none
 | n+1=>qdY k0 (qjX k0 n) n
def qfG (_n:Nat) (t3:List Int):Option AV :=
 qqx t3
def qtP (n:Nat) (s0:List UInt8):Option AV :=
 bif ((qmy s0)&&true) then
 qjX (qfG n) n (z97 s0) ((List.length (z97 s0):Nat):Int) (0:Int)
 else none
def qqy (s0:List (UInt8×(Int×Unit))):Option AV:=some (.dat (.arr 8 (.pair .byte (.pair (.int .i32) .unit))) s0 none)
def qvf (_n:Nat):Option AV :=
 qqy ([((164:UInt8),((8364:Int),())),((166:UInt8),((352:Int),())),((168:UInt8),((353:Int),())),((180:UInt8),((381:Int),())),((184:UInt8),((382:Int),())),((188:UInt8),((338:Int),())),((189:UInt8),((339:Int),())),((190:UInt8),((376:Int),()))]:List (UInt8×(Int×Unit)))
def qai (s2:Int):Option AV:=some (.dat (.int .i32) s2 none)
def qlo (ret:Int→Option AV) (k0:UInt8→Option AV) (next:UInt8→List (UInt8×(Int×Unit))→Int→Option AV) (_n:Nat) (x0:UInt8) (s5:List (UInt8×(Int×Unit))) (s6:Int):Option AV :=
 bif (decide (s6 < (8:Int))) then
 bif ((decide ((0:Int)≤s6))&&(decide (s6 < (8:Nat)))) then
 bif ((List.getD s5 (Int.toNat s6) ((0:UInt8),((0:Int),()))).1==x0) then
 ret (List.getD s5 (Int.toNat s6) ((0:UInt8),((0:Int),()))).2.1
 else
 next x0 s5 (IntKind.wrap .i64 (s6+(1:Int)))
 else none
 else
 k0 x0
def qgp (ret:Int→Option AV) (k0:UInt8→Option AV):Nat→UInt8→List (UInt8×(Int×Unit))→Int→Option AV
 | 0=>fun _ _ _=>none
 | n+1=>qlo ret k0 (qgp ret k0 n) n
def qeM (_n:Nat) (x0:UInt8):Option AV :=
 qai (IntKind.wrap .i32 ((UInt8.toNat x0:Nat):Int))
def qlp (n:Nat) (x0:UInt8):Option AV :=
 qgp qai (qeM n) n x0 z185 (0:Int)
def qvg (s2:List Int):Option AV:=some (.dat (.sl (.int .i32)) s2 (some (2,21)))
def qdZ (k0:List Int→Option AV) (next:List Int→List UInt8→Int→Int→Option AV) (_n:Nat) (t3:List Int) (s6:List UInt8) (s7:Int) (s8:Int):Option AV :=
 bif (decide (s8 < s7)) then
 bif ((decide ((0:Int)≤s8))&&(decide (s8 < (List.length s6:Nat)))) then
 bif (decide (List.length t3+List.length ([(z139 (List.getD s6 (Int.toNat s8) (0:UInt8)))]:List Int)≤room)) then
 next (t3++([(z139 (List.getD s6 (Int.toNat s8) (0:UInt8)))]:List Int)) s6 s7 (IntKind.wrap .i64 (s8+(1:Int)))
 else none
 else none
 else
 k0 t3
def qjY (k0:List Int→Option AV):Nat→List Int→List UInt8→Int→Int→Option AV
 | 0=>fun _ _ _ _=>none
 | n+1=>qdZ k0 (qjY k0 n) n
def qea (_n:Nat) (t3:List Int):Option AV :=
 qvg t3
def qtQ (n:Nat) (s0:List UInt8):Option AV :=
 qjY (qea n) n ([]:List Int) s0 ((List.length s0:Nat):Int) (0:Int)
def qqz (s0:List Int):Option AV:=some (.dat (.sl (.int .i32)) s0 none)
def qvh (_n:Nat):Option AV :=
 qqz (List.drop 0 (List.take 32 ([(8364:Int),(0:Int),(8218:Int),(402:Int),(8222:Int),(8230:Int),(8224:Int),(8225:Int),(710:Int),(8240:Int),(352:Int),(8249:Int),(338:Int),(0:Int),(381:Int),(0:Int),(0:Int),(8216:Int),(8217:Int),(8220:Int),(8221:Int),(8226:Int),(8211:Int),(8212:Int),(732:Int),(8482:Int),(353:Int),(8250:Int),(339:Int),(0:Int),(382:Int),(376:Int)]:List Int)))
def qfH (s2:Int):Option AV:=some (.dat (.int .i32) s2 none)
def qqA (_n:Nat) (x0:UInt8):Option AV :=
 bif (decide (x0 < (128:UInt8))) then
 qfH (IntKind.wrap .i32 ((UInt8.toNat x0:Nat):Int))
 else
 bif (decide ((160:UInt8)≤x0)) then
 qfH (IntKind.wrap .i32 ((UInt8.toNat x0:Nat):Int))
 else
 bif ((decide ((0:Int)≤((UInt8.toNat (x0 - (128:UInt8)):Nat):Int)))&&(decide (((UInt8.toNat (x0 - (128:UInt8)):Nat):Int) < (List.length z186:Nat)))) then
 bif ((List.getD z186 (Int.toNat ((UInt8.toNat (x0 - (128:UInt8)):Nat):Int)) (0:Int)) != (0:Int)) then
 qfH (List.getD z186 (Int.toNat ((UInt8.toNat (x0 - (128:UInt8)):Nat):Int)) (0:Int))
 else
 qfH (65533:Int)
 else none
def qvi (s2:List Int):Option AV:=some (.dat (.sl (.int .i32)) s2 (some (2,21)))
def qeb (k0:List Int→Option AV) (next:List Int→List UInt8→Int→Int→Option AV) (_n:Nat) (t3:List Int) (s9:List UInt8) (s10:Int) (s11:Int):Option AV :=
 bif (decide (s11 < s10)) then
 bif ((decide ((0:Int)≤s11))&&(decide (s11 < (List.length s9:Nat)))) then
 bif (decide (List.length t3+List.length ([(z140 (List.getD s9 (Int.toNat s11) (0:UInt8)))]:List Int)≤room)) then
 next (t3++([(z140 (List.getD s9 (Int.toNat s11) (0:UInt8)))]:List Int)) s9 s10 (IntKind.wrap .i64 (s11+(1:Int)))
 else none
 else none
 else
 k0 t3
def qjZ (k0:List Int→Option AV):Nat→List Int→List UInt8→Int→Int→Option AV
 | 0=>fun _ _ _ _=>none
 | n+1=>qeb k0 (qjZ k0 n) n
def qec (_n:Nat) (t3:List Int):Option AV :=
 qvi t3
def qtR (n:Nat) (s0:List UInt8):Option AV :=
 bif (((decide ((0:Int)≤(0:Int)))&&(decide ((0:Int)≤((List.length s0:Nat):Int))))&&(decide (((List.length s0:Nat):Int)≤(room:Int)))) then
 qjZ (qec n) n (List.replicate (Int.toNat (0:Int)) (0:Int)) s0 ((List.length s0:Nat):Int) (0:Int)
 else none
def qka (s13:List Int):Option AV:=some (.tup [(.tup []),.bad,.bad,(.pbox (.osl 21 (.int .i32)) s13 none)])
def qqB (_n:Nat) (c0:Int) (e1:Int) (x2:List Int):Option AV :=
 bif (e1 != (0:Int)) then
 bif (decide (List.length x2+List.length ([(65533:Int)]:List Int)≤room)) then
 qka (x2++([(65533:Int)]:List Int))
 else none
 else
 bif (decide (List.length x2+List.length ([c0]:List Int)≤room)) then
 qka (x2++([c0]:List Int))
 else none
def qcH (s2:Int):Option AV:=some (.dat (.int .i64) s2 none)
def qqC (_n:Nat) (c0:UInt8):Option AV :=
 bif (decide (c0 < (128:UInt8))) then
 qcH (1:Int)
 else
 bif (decide (c0 < (194:UInt8))) then
 qcH (0:Int)
 else
 bif (decide ((244:UInt8) < c0)) then
 qcH (0:Int)
 else
 bif (decide (c0 < (224:UInt8))) then
 qcH (2:Int)
 else
 bif (decide (c0 < (240:UInt8))) then
 qcH (3:Int)
 else
 qcH (4:Int)
def qqD (s2:Bool):Option AV:=some (.dat .bool s2 none)
def qqE (_n:Nat) (c0:UInt8):Option AV :=
 qqD ((c0 &&& ~~~ (63:UInt8))==(128:UInt8))
def qbd (s4:Bool):Option AV:=some (.dat .bool s4 none)
def qqF (_n:Nat) (first0:UInt8) (c1:UInt8):Option AV :=
 bif (first0==(224:UInt8)) then
 bif (decide ((160:UInt8)≤c1)) then
 qbd (z235 c1)
 else
 qbd false
 else
 bif (first0==(237:UInt8)) then
 bif (decide (c1 < (160:UInt8))) then
 qbd (z235 c1)
 else
 qbd false
 else
 bif (first0==(240:UInt8)) then
 bif (decide ((144:UInt8)≤c1)) then
 qbd (z235 c1)
 else
 qbd false
 else
 bif (first0==(244:UInt8)) then
 bif (decide (c1 < (144:UInt8))) then
 qbd (z235 c1)
 else
 qbd false
 else
 qbd (z235 c1)
def qaj (s2:Int):Option AV:=some (.dat (.int .i64) s2 none)
def qaO (ret:Int→Option AV) (k0:List UInt8→Int→Option AV) (next:List UInt8→Int→Option AV) (_n:Nat) (s0:List UInt8) (n3:Int):Option AV :=
 bif ((decide ((0:Int)≤(0:Int)))&&(decide ((0:Int) < (List.length s0:Nat)))) then
 bif (decide (n3 < (z217 (List.getD s0 (Int.toNat (0:Int)) (0:UInt8))))) then
 bif (decide (n3 < ((List.length s0:Nat):Int))) then
 bif ((decide ((0:Int)≤n3))&&(decide (n3 < (List.length s0:Nat)))) then
 bif (!(z235 (List.getD s0 (Int.toNat n3) (0:UInt8)))) then
 ret n3
 else
 bif (n3==(1:Int)) then
 bif ((decide ((0:Int)≤(0:Int)))&&(decide ((0:Int) < (List.length s0:Nat)))) then
 bif ((decide ((0:Int)≤(1:Int)))&&(decide ((1:Int) < (List.length s0:Nat)))) then
 bif (!(z236 (List.getD s0 (Int.toNat (0:Int)) (0:UInt8)) (List.getD s0 (Int.toNat (1:Int)) (0:UInt8)))) then
 ret n3
 else
 next s0 (IntKind.wrap .i64 (n3+(1:Int)))
 else none
 else none
 else
 next s0 (IntKind.wrap .i64 (n3+(1:Int)))
 else none
 else
 k0 s0 n3
 else
 k0 s0 n3
 else none
def qeo (ret:Int→Option AV) (k0:List UInt8→Int→Option AV):Nat→List UInt8→Int→Option AV
 | 0=>fun _ _=>none
 | n+1=>qaO ret k0 (qeo ret k0 n) n
def qR (_n:Nat) (s0:List UInt8) (n3:Int):Option AV :=
 bif ((decide ((0:Int)≤(0:Int)))&&(decide ((0:Int) < (List.length s0:Nat)))) then
 qaj (bif (decide ((z217 (List.getD s0 (Int.toNat (0:Int)) (0:UInt8))) < n3)) then (z217 (List.getD s0 (Int.toNat (0:Int)) (0:UInt8))) else n3)
 else none
def qlq (n:Nat) (s0:List UInt8):Option AV :=
 qeo qaj (qR n) n s0 (1:Int)
def qfI (s2:UInt8):Option AV:=some (.dat .byte s2 none)
def qqG (_n:Nat) (n0:Int):Option AV :=
 bif (n0==(2:Int)) then
 qfI (192:UInt8)
 else
 bif (n0==(3:Int)) then
 qfI (224:UInt8)
 else
 bif (n0==(4:Int)) then
 qfI (240:UInt8)
 else
 qfI (0:UInt8)
def qbt (s2:Int) (s3:Int) (s4:Int):Option AV:=some (.tup [(.dat (.int .i32) s2 none),(.dat (.int .i64) s3 none),(.dat (.int .i64) s4 none)])
def qbk (k1:Int→Int→Option AV) (next:Int→Int→List UInt8→Int→Int→Option AV) (_n:Nat) (n5:Int) (c6:Int) (s48:List UInt8) (s49:Int) (s50:Int):Option AV :=
 bif (decide (s50 < s49)) then
 bif ((decide ((0:Int)≤s50))&&(decide (s50 < (List.length s48:Nat)))) then
 next n5 (bits .or .i32 (IntKind.wrap .i32 (c6*2 ^ (min (Int.toNat (6:Int)) (IntKind.bits .i32)))) (IntKind.wrap .i32 ((UInt8.toNat ((List.getD s48 (Int.toNat s50) (0:UInt8)) &&& (63:UInt8)):Nat):Int))) s48 s49 (IntKind.wrap .i64 (s50+(1:Int)))
 else none
 else
 k1 n5 c6
def qbT (k1:Int→Int→Option AV):Nat→Int→Int→List UInt8→Int→Int→Option AV
 | 0=>fun _ _ _ _ _=>none
 | n+1=>qbk k1 (qbT k1 n) n
def qbl (_n:Nat) (n5:Int) (c6:Int):Option AV :=
 qbt c6 n5 (0:Int)
def qlr (n:Nat) (s0:List UInt8):Option AV :=
 bif (((List.length s0:Nat):Int)==(0:Int)) then
 qbt (0:Int) (0:Int) (4:Int)
 else
 bif ((qgl s0)&&true) then
 bif ((z216 s0)==(0:Int)) then
 qbt (0:Int) (1:Int) (3:Int)
 else
 bif ((decide ((0:Int)≤(0:Int)))&&(decide ((0:Int) < (List.length s0:Nat)))) then
 bif (decide ((z216 s0) < (z217 (List.getD s0 (Int.toNat (0:Int)) (0:UInt8))))) then
 bif ((z216 s0)==((List.length s0:Nat):Int)) then
 qbt (0:Int) (z216 s0) (4:Int)
 else
 bif ((decide ((0:Int)≤(0:Int)))&&(decide ((0:Int) < (List.length s0:Nat)))) then
 bif (decide ((z216 s0) < (z217 (List.getD s0 (Int.toNat (0:Int)) (0:UInt8))))) then
 qbt (0:Int) (z216 s0) (3:Int)
 else
 bif ((decide ((0:Int)≤(0:Int)))&&(decide ((0:Int) < (List.length s0:Nat)))) then
 bif (((decide ((0:Int)≤(1:Int)))&&(decide ((1:Int)≤(z216 s0))))&&(decide ((z216 s0)≤((List.length s0:Nat):Int)))) then
 qbT (qbl n) n (z216 s0) (IntKind.wrap .i32 ((UInt8.toNat ((List.getD s0 (Int.toNat (0:Int)) (0:UInt8)) &&& ~~~ (z218 (z216 s0))):Nat):Int)) (List.drop (Int.toNat (1:Int)) (List.take (Int.toNat (z216 s0)) s0)) ((List.length (List.drop (Int.toNat (1:Int)) (List.take (Int.toNat (z216 s0)) s0)):Nat):Int) (0:Int)
 else none
 else none
 else none
 else
 bif ((decide ((0:Int)≤(0:Int)))&&(decide ((0:Int) < (List.length s0:Nat)))) then
 bif (decide ((z216 s0) < (z217 (List.getD s0 (Int.toNat (0:Int)) (0:UInt8))))) then
 qbt (0:Int) (z216 s0) (3:Int)
 else
 bif ((decide ((0:Int)≤(0:Int)))&&(decide ((0:Int) < (List.length s0:Nat)))) then
 bif (((decide ((0:Int)≤(1:Int)))&&(decide ((1:Int)≤(z216 s0))))&&(decide ((z216 s0)≤((List.length s0:Nat):Int)))) then
 qbT (qbl n) n (z216 s0) (IntKind.wrap .i32 ((UInt8.toNat ((List.getD s0 (Int.toNat (0:Int)) (0:UInt8)) &&& ~~~ (z218 (z216 s0))):Nat):Int)) (List.drop (Int.toNat (1:Int)) (List.take (Int.toNat (z216 s0)) s0)) ((List.length (List.drop (Int.toNat (1:Int)) (List.take (Int.toNat (z216 s0)) s0)):Nat):Int) (0:Int)
 else none
 else none
 else none
 else none
 else none
def qak (s24:List Int):Option AV:=some (.tup [(.tup []),.bad,(.pbox (.osl 21 (.int .i32)) s24 none)])
def qbu (k0:List Int→Option AV) (next:List UInt8→List Int→Option AV) (_n:Nat) (s0:List UInt8) (s24:List Int):Option AV :=
 bif (decide ((0:Int) < ((List.length s0:Nat):Int))) then
 bif ((qlb s0)&&true) then
 bif (qlf ((z187 s0).1) ((z187 s0).2.2) s24) then
 bif (((decide ((0:Int)≤((z187 s0).2.1)))&&(decide (((z187 s0).2.1)≤((List.length s0:Nat):Int))))&&(decide (((List.length s0:Nat):Int)≤((List.length s0:Nat):Int)))) then
 next (List.drop (Int.toNat ((z187 s0).2.1)) (List.take (Int.toNat ((List.length s0:Nat):Int)) s0)) (z142 ((z187 s0).1) ((z187 s0).2.2) s24)
 else none
 else none
 else none
 else
 k0 s24
def qap (k0:List Int→Option AV):Nat→List UInt8→List Int→Option AV
 | 0=>fun _ _=>none
 | n+1=>qbu k0 (qap k0 n) n
def qal (_n:Nat) (s24:List Int):Option AV :=
 qak s24
def qfJ (n:Nat) (s0:List UInt8) (f1:List Int):Option AV :=
 qap (qal n) n s0 f1
def qvj (s2:List Int):Option AV:=some (.dat (.sl (.int .i32)) s2 none)
def qxp (_n:Nat) (s0:List UInt8):Option AV :=
 bif (qbi s0 ([]:List Int)) then
 qvj (qpN s0 ([]:List Int))
 else none
def qgq (s4:List Int):Option AV:=some (.dat (.sl (.int .i32)) s4 none)
def qxq (_n:Nat) (charset0:Int) (s1:List UInt8):Option AV :=
 bif (charset0==(1:Int)) then
 bif ((qth s1)&&true) then
 qgq (z93 s1)
 else none
 else
 bif (charset0==(3:Int)) then
 bif ((qtf s1)&&true) then
 qgq (z94 s1)
 else none
 else
 bif (charset0==(4:Int)) then
 bif ((qtg s1)&&true) then
 qgq (z95 s1)
 else none
 else
 bif (charset0==(5:Int)) then
 bif ((qte s1)&&true) then
 qgq (z96 s1)
 else none
 else
 bif ((qmy s1)&&true) then
 qgq (z97 s1)
 else none
def qqH (s0:List ((List UInt8)×Int)):Option AV:=some (.abs (.sl (.pair .str (.int .i64))) (qac .str (.int .i64)) s0)
def qls (k2:List ((List UInt8)×Int)→Int→Option AV) (next:List ((List UInt8)×Int)→Int→List (List UInt8)→Int→Int→Option AV) (_n:Nat) (m1:List ((List UInt8)×Int)) (n2:Int) (s11:List (List UInt8)) (s12:Int) (s13:Int):Option AV :=
 bif (decide (s13 < s12)) then
 bif ((decide ((0:Int)≤s13))&&(decide (s13 < (List.length s11:Nat)))) then
 next (@putM .str (.int .i64) (List.getD s11 (Int.toNat s13) ([]:List UInt8)) n2 m1) n2 s11 s12 (IntKind.wrap .i64 (s13+(1:Int)))
 else none
 else
 k2 m1 n2
def qgr (k2:List ((List UInt8)×Int)→Int→Option AV):Nat→List ((List UInt8)×Int)→Int→List (List UInt8)→Int→Int→Option AV
 | 0=>fun _ _ _ _ _=>none
 | n+1=>qls k2 (qgr k2 n) n
def qeN (_k0:List ((List UInt8)×Int)→Option AV) (next:List ((List UInt8)×Int)→Int→Option AV) (_n:Nat) (m1:List ((List UInt8)×Int)) (n2:Int):Option AV :=
 next m1 (IntKind.wrap .i64 (n2+(1:Int)))
def qhA (k0:List ((List UInt8)×Int)→Option AV) (next:List ((List UInt8)×Int)→Int→Option AV) (n:Nat) (m1:List ((List UInt8)×Int)) (n2:Int):Option AV :=
 bif (decide (n2≤(5:Int))) then
 qgr (qeN k0 next n) n m1 n2 (z133 n2) ((List.length (z133 n2):Nat):Int) (0:Int)
 else
 k0 m1
def qgs (k0:List ((List UInt8)×Int)→Option AV):Nat→List ((List UInt8)×Int)→Int→Option AV
 | 0=>fun _ _=>none
 | n+1=>qhA k0 (qgs k0 n) n
def qeO (_n:Nat) (m1:List ((List UInt8)×Int)):Option AV :=
 qqH m1
def qqI (n:Nat):Option AV :=
 qgs (qeO n) n ([]:List ((List UInt8)×Int)) (1:Int)
def qkb (s4:List UInt8):Option AV:=some (.dat (.sl .byte) s4 none)
def qlt (k0:List UInt8→Option AV) (next:List UInt8→UInt8→Option AV) (_n:Nat) (s0:List UInt8) (c1:UInt8):Option AV :=
 bif (decide ((0:Int) < ((List.length s0:Nat):Int))) then
 bif ((decide ((0:Int)≤(0:Int)))&&(decide ((0:Int) < (List.length s0:Nat)))) then
 bif ((List.getD s0 (Int.toNat (0:Int)) (0:UInt8))==c1) then
 bif (((decide ((0:Int)≤(1:Int)))&&(decide ((1:Int)≤((List.length s0:Nat):Int))))&&(decide (((List.length s0:Nat):Int)≤((List.length s0:Nat):Int)))) then
 next (List.drop (Int.toNat (1:Int)) (List.take (Int.toNat ((List.length s0:Nat):Int)) s0)) c1
 else none
 else
 k0 s0
 else none
 else
 k0 s0
def qgt (k0:List UInt8→Option AV):Nat→List UInt8→UInt8→Option AV
 | 0=>fun _ _=>none
 | n+1=>qlt k0 (qgt k0 n) n
def qeP (_n:Nat) (s0:List UInt8):Option AV :=
 bif (((List.length s0:Nat):Int)==(0:Int)) then
 qkb ([]:List UInt8)
 else
 qkb s0
def qqJ (n:Nat) (s0:List UInt8) (c1:UInt8):Option AV :=
 qgt (qeP n) n s0 c1
def qqK (s4:List UInt8):Option AV:=some (.dat (.sl .byte) s4 none)
def qlu (k0:List UInt8→Option AV) (next:List UInt8→UInt8→Option AV) (_n:Nat) (s0:List UInt8) (c1:UInt8):Option AV :=
 bif (decide ((0:Int) < ((List.length s0:Nat):Int))) then
 bif ((decide ((0:Int)≤(IntKind.wrap .i64 (((List.length s0:Nat):Int) - (1:Int)))))&&(decide ((IntKind.wrap .i64 (((List.length s0:Nat):Int) - (1:Int))) < (List.length s0:Nat)))) then
 bif ((List.getD s0 (Int.toNat (IntKind.wrap .i64 (((List.length s0:Nat):Int) - (1:Int)))) (0:UInt8))==c1) then
 bif (((decide ((0:Int)≤((0:Nat):Int)))&&(decide (((0:Nat):Int)≤(IntKind.wrap .i64 (((List.length s0:Nat):Int) - (1:Int))))))&&(decide ((IntKind.wrap .i64 (((List.length s0:Nat):Int) - (1:Int)))≤((List.length s0:Nat):Int)))) then
 next (List.drop (Int.toNat ((0:Nat):Int)) (List.take (Int.toNat (IntKind.wrap .i64 (((List.length s0:Nat):Int) - (1:Int)))) s0)) c1
 else none
 else
 k0 s0
 else none
 else
 k0 s0
def qgu (k0:List UInt8→Option AV):Nat→List UInt8→UInt8→Option AV
 | 0=>fun _ _=>none
 | n+1=>qlu k0 (qgu k0 n) n
def qeQ (_n:Nat) (s0:List UInt8):Option AV :=
 qqK s0
def qqL (n:Nat) (s0:List UInt8) (c1:UInt8):Option AV :=
 qgu (qeQ n) n s0 c1
def qfK (as2:List Bool) (ok3:Bool):Option AV:=some (.tup [(.dat (.arr 256 .bool) as2 none),(.dat .bool ok3 none)])
def qch (ret:List Bool→Bool→Option AV) (k0:List Bool→Option AV) (next:List UInt8→List Bool→Int→Option AV) (_n:Nat) (chars0:List UInt8) (as2:List Bool) (i4:Int):Option AV :=
 bif (decide (i4 < ((List.length chars0:Nat):Int))) then
 bif ((decide ((0:Int)≤i4))&&(decide (i4 < (List.length chars0:Nat)))) then
 bif (decide ((128:UInt8)≤(List.getD chars0 (Int.toNat i4) (0:UInt8)))) then
 ret as2 false
 else
 bif ((decide ((0:Int)≤((UInt8.toNat (List.getD chars0 (Int.toNat i4) (0:UInt8)):Nat):Int)))&&(decide (((UInt8.toNat (List.getD chars0 (Int.toNat i4) (0:UInt8)):Nat):Int) < (256:Nat)))) then
 next chars0 (List.set as2 (Int.toNat ((UInt8.toNat (List.getD chars0 (Int.toNat i4) (0:UInt8)):Nat):Int)) true) (IntKind.wrap .i64 (i4+(1:Int)))
 else none
 else none
 else
 k0 as2
def qdp (ret:List Bool→Bool→Option AV) (k0:List Bool→Option AV):Nat→List UInt8→List Bool→Int→Option AV
 | 0=>fun _ _ _=>none
 | n+1=>qch ret k0 (qdp ret k0 n) n
def qdq (_n:Nat) (as2:List Bool):Option AV :=
 qfK as2 true
def qqM (n:Nat) (chars0:List UInt8):Option AV :=
 qdp qfK (qdq n) n chars0 (List.replicate 256 false) (0:Int)
def qqN (s4:Bool):Option AV:=some (.dat .bool s4 none)
def qqO (_n:Nat) (as0:List Bool) (c1:UInt8):Option AV :=
 bif ((decide ((0:Int)≤((UInt8.toNat c1:Nat):Int)))&&(decide (((UInt8.toNat c1:Nat):Int) < (256:Nat)))) then
 qqN (List.getD as0 (Int.toNat ((UInt8.toNat c1:Nat):Int)) false)
 else none
def qkc (s4:List UInt8):Option AV:=some (.dat (.sl .byte) s4 none)
def qeR (k0:List UInt8→Option AV) (next:List UInt8→List Bool→Option AV) (_n:Nat) (s0:List UInt8) (as1:List Bool):Option AV :=
 bif (decide ((0:Int) < ((List.length s0:Nat):Int))) then
 bif ((decide ((0:Int)≤(0:Int)))&&(decide ((0:Int) < (List.length s0:Nat)))) then
 bif (!(z238 as1 (List.getD s0 (Int.toNat (0:Int)) (0:UInt8)))) then
 k0 s0
 else
 bif (((decide ((0:Int)≤(1:Int)))&&(decide ((1:Int)≤((List.length s0:Nat):Int))))&&(decide (((List.length s0:Nat):Int)≤((List.length s0:Nat):Int)))) then
 next (List.drop (Int.toNat (1:Int)) (List.take (Int.toNat ((List.length s0:Nat):Int)) s0)) as1
 else none
 else none
 else
 k0 s0
def qep (k0:List UInt8→Option AV):Nat→List UInt8→List Bool→Option AV
 | 0=>fun _ _=>none
 | n+1=>qeR k0 (qep k0 n) n
def qdr (_n:Nat) (s0:List UInt8):Option AV :=
 bif (((List.length s0:Nat):Int)==(0:Int)) then
 qkc ([]:List UInt8)
 else
 qkc s0
def qlv (n:Nat) (s0:List UInt8) (as1:List Bool):Option AV :=
 qep (qdr n) n s0 as1
def qqP (s4:List UInt8):Option AV:=some (.dat (.sl .byte) s4 none)
def qeS (k0:List UInt8→Option AV) (next:List UInt8→List Bool→Option AV) (_n:Nat) (s0:List UInt8) (as1:List Bool):Option AV :=
 bif (decide ((0:Int) < ((List.length s0:Nat):Int))) then
 bif ((decide ((0:Int)≤(IntKind.wrap .i64 (((List.length s0:Nat):Int) - (1:Int)))))&&(decide ((IntKind.wrap .i64 (((List.length s0:Nat):Int) - (1:Int))) < (List.length s0:Nat)))) then
 bif (!(z238 as1 (List.getD s0 (Int.toNat (IntKind.wrap .i64 (((List.length s0:Nat):Int) - (1:Int)))) (0:UInt8)))) then
 k0 s0
 else
 bif (((decide ((0:Int)≤((0:Nat):Int)))&&(decide (((0:Nat):Int)≤(IntKind.wrap .i64 (((List.length s0:Nat):Int) - (1:Int))))))&&(decide ((IntKind.wrap .i64 (((List.length s0:Nat):Int) - (1:Int)))≤((List.length s0:Nat):Int)))) then
 next (List.drop (Int.toNat ((0:Nat):Int)) (List.take (Int.toNat (IntKind.wrap .i64 (((List.length s0:Nat):Int) - (1:Int)))) s0)) as1
 else none
 else none
 else
 k0 s0
def qeq (k0:List UInt8→Option AV):Nat→List UInt8→List Bool→Option AV
 | 0=>fun _ _=>none
 | n+1=>qeS k0 (qeq k0 n) n
def qeT (_n:Nat) (s0:List UInt8):Option AV :=
 qqP s0
def qlw (n:Nat) (s0:List UInt8) (as1:List Bool):Option AV :=
 qeq (qeT n) n s0 as1
def qbU (s4:List UInt8):Option AV:=some (.dat (.sl .byte) s4 none)
def qqQ (_n:Nat) (s0:List UInt8) (cutset1:List UInt8):Option AV :=
 bif (((List.length s0:Nat):Int)==(0:Int)) then
 qbU ([]:List UInt8)
 else
 bif (cutset1==([]:List UInt8)) then
 qbU s0
 else
 bif (((List.length cutset1:Nat):Int)==(1:Int)) then
 bif ((decide ((0:Int)≤(0:Int)))&&(decide ((0:Int) < (List.length cutset1:Nat)))) then
 bif (decide ((List.getD cutset1 (Int.toNat (0:Int)) (0:UInt8)) < (128:UInt8))) then
 bif ((decide ((0:Int)≤(0:Int)))&&(decide ((0:Int) < (List.length cutset1:Nat)))) then
 bif ((decide ((0:Int)≤(0:Int)))&&(decide ((0:Int) < (List.length cutset1:Nat)))) then
 bif ((qrq s0 (List.getD cutset1 (Int.toNat (0:Int)) (0:UInt8)))&&true) then
 bif ((qrp (z222 s0 (List.getD cutset1 (Int.toNat (0:Int)) (0:UInt8))) (List.getD cutset1 (Int.toNat (0:Int)) (0:UInt8)))&&true) then
 qbU (z221 (z222 s0 (List.getD cutset1 (Int.toNat (0:Int)) (0:UInt8))) (List.getD cutset1 (Int.toNat (0:Int)) (0:UInt8)))
 else none
 else none
 else none
 else none
 else
 bif ((qfV cutset1)&&true) then
 bif ((z223 cutset1).2) then
 bif ((qiV s0 ((z223 cutset1).1))&&true) then
 bif ((qiU (z225 s0 ((z223 cutset1).1)) ((z223 cutset1).1))&&true) then
 qbU (z224 (z225 s0 ((z223 cutset1).1)) ((z223 cutset1).1))
 else none
 else none
 else
 bif ((qrs s0 cutset1)&&true) then
 bif ((qrr (z227 s0 cutset1) cutset1)&&true) then
 qbU (z226 (z227 s0 cutset1) cutset1)
 else none
 else none
 else none
 else none
 else
 bif ((qfV cutset1)&&true) then
 bif ((z223 cutset1).2) then
 bif ((qiV s0 ((z223 cutset1).1))&&true) then
 bif ((qiU (z225 s0 ((z223 cutset1).1)) ((z223 cutset1).1))&&true) then
 qbU (z224 (z225 s0 ((z223 cutset1).1)) ((z223 cutset1).1))
 else none
 else none
 else
 bif ((qrs s0 cutset1)&&true) then
 bif ((qrr (z227 s0 cutset1) cutset1)&&true) then
 qbU (z226 (z227 s0 cutset1) cutset1)
 else none
 else none
 else none
def qqR (s2:List UInt8):Option AV:=some (.dat (.sl .byte) s2 (some (2,5)))
def qqS (_n:Nat) (s0:List UInt8):Option AV :=
 bif ((qgz s0 ([32,9]:List UInt8))&&true) then
 bif ((qcK (z190 s0 ([32,9]:List UInt8)))&&true) then
 qqR (z38 (z190 s0 ([32,9]:List UInt8)))
 else none
 else none
def qkd (s2:List UInt8):Option AV:=some (.dat (.sl .byte) s2 (some (2,5)))
def qqT (_n:Nat) (s0:List UInt8):Option AV :=
 bif (decide ((0:Int)≤(z109 s0 (42:UInt8)))) then
 bif (((decide ((0:Int)≤((0:Nat):Int)))&&(decide (((0:Nat):Int)≤(z109 s0 (42:UInt8)))))&&(decide ((z109 s0 (42:UInt8))≤((List.length s0:Nat):Int)))) then
 bif ((qgA (List.drop (Int.toNat ((0:Nat):Int)) (List.take (Int.toNat (z109 s0 (42:UInt8))) s0)))&&true) then
 qkd (z148 (List.drop (Int.toNat ((0:Nat):Int)) (List.take (Int.toNat (z109 s0 (42:UInt8))) s0)))
 else none
 else none
 else
 bif ((qgA s0)&&true) then
 qkd (z148 s0)
 else none
def qqU (s2:Int) (s3:Int):Option AV:=some (.tup [(.dat (.int .i64) s2 none),(.dat (.int .i64) s3 none)])
def qxr (_n:Nat) (s0:List UInt8):Option AV :=
 bif ((qlc s0)&&true) then
 bif ((qmQ (z107 s0))&&true) then
 bif (!(Option.isSome (@findM .str (.int .i64) (z79 (z107 s0)) z106))) then
 qqU (0:Int) (10:Int)
 else
 qqU (Option.getD (@findM .str (.int .i64) (z79 (z107 s0)) z106) (0:Int)) (0:Int)
 else none
 else none
def qqV (s2:Int):Option AV:=some (.dat (.int .i64) s2 none)
def qxs (_n:Nat) (w0:(List UInt8)×(Int×((List UInt8)×Unit))):Option AV :=
 bif ((qtj w0.1)&&true) then
 bif (((z58 w0.1).2) != (0:Int)) then
 qqV (2:Int)
 else
 qqV ((z58 w0.1).1)
 else none
def qke (s2:Int) (s3:Bool):Option AV:=some (.tup [(.dat (.int .i64) s2 none),(.dat .bool s3 none)])
def qvk (_n:Nat) (c0:UInt8):Option AV :=
 qke (bif (decide ((0:Int) > (z192 ([65,66,67,68,69,70,71,72,73,74,75,76,77,78,79,80,81,82,83,84,85,86,87,88,89,90,97,98,99,100,101,102,103,104,105,106,107,108,109,110,111,112,113,114,115,116,117,118,119,120,121,122,48,49,50,51,52,53,54,55,56,57,43,47]:List UInt8) c0))) then (0:Int) else (z192 ([65,66,67,68,69,70,71,72,73,74,75,76,77,78,79,80,81,82,83,84,85,86,87,88,89,90,97,98,99,100,101,102,103,104,105,106,107,108,109,110,111,112,113,114,115,116,117,118,119,120,121,122,48,49,50,51,52,53,54,55,56,57,43,47]:List UInt8) c0)) (decide ((0:Int)≤(z192 ([65,66,67,68,69,70,71,72,73,74,75,76,77,78,79,80,81,82,83,84,85,86,87,88,89,90,97,98,99,100,101,102,103,104,105,106,107,108,109,110,111,112,113,114,115,116,117,118,119,120,121,122,48,49,50,51,52,53,54,55,56,57,43,47]:List UInt8) c0)))
def qaE (V:Sigma Inv) (xv:Den V.1) (s29:List UInt8):Option AV:=some (.tup [(.tup []),(.abs V.1 V.2 xv),(.pbox (.leaf (.sl .byte)) s29 none)])
def qci (V:Sigma Inv) (ret:Den V.1→List UInt8→Option AV) (k0:Den V.1→List UInt8→Option AV) (next:List UInt8→Int→Int→Den V.1→List UInt8→Option AV) (_n:Nat) (s7:List UInt8) (s8:Int) (s9:Int) (xv:Den V.1) (s29:List UInt8):Option AV :=
 bif (decide (s9 < s8)) then
 bif ((decide ((0:Int)≤s9))&&(decide (s9 < (List.length s7:Nat)))) then
 bif ((List.getD s7 (Int.toNat s9) (0:UInt8))==(61:UInt8)) then
 ret xv s29
 else
 bif (!((z150 (List.getD s7 (Int.toNat s9) (0:UInt8))).2)) then
 bif (V.2.spec xv [⟨.byte,(List.getD s7 (Int.toNat s9) (0:UInt8))⟩,⟨(.int .i64),(-1:Int)⟩]).1 then
 bif (!(V.2.spec xv [⟨.byte,(List.getD s7 (Int.toNat s9) (0:UInt8))⟩,⟨(.int .i64),(-1:Int)⟩]).2.1) then
 ret (V.2.spec xv [⟨.byte,(List.getD s7 (Int.toNat s9) (0:UInt8))⟩,⟨(.int .i64),(-1:Int)⟩]).2.2 s29
 else
 next s7 s8 (IntKind.wrap .i64 (s9+(1:Int))) (V.2.spec xv [⟨.byte,(List.getD s7 (Int.toNat s9) (0:UInt8))⟩,⟨(.int .i64),(-1:Int)⟩]).2.2 s29
 else none
 else
 bif (V.2.spec xv [⟨.byte,(List.getD s7 (Int.toNat s9) (0:UInt8))⟩,⟨(.int .i64),((z150 (List.getD s7 (Int.toNat s9) (0:UInt8))).1)⟩]).1 then
 bif (!(V.2.spec xv [⟨.byte,(List.getD s7 (Int.toNat s9) (0:UInt8))⟩,⟨(.int .i64),((z150 (List.getD s7 (Int.toNat s9) (0:UInt8))).1)⟩]).2.1) then
 ret (V.2.spec xv [⟨.byte,(List.getD s7 (Int.toNat s9) (0:UInt8))⟩,⟨(.int .i64),((z150 (List.getD s7 (Int.toNat s9) (0:UInt8))).1)⟩]).2.2 s29
 else
 next s7 s8 (IntKind.wrap .i64 (s9+(1:Int))) (V.2.spec xv [⟨.byte,(List.getD s7 (Int.toNat s9) (0:UInt8))⟩,⟨(.int .i64),((z150 (List.getD s7 (Int.toNat s9) (0:UInt8))).1)⟩]).2.2 s29
 else none
 else none
 else
 k0 xv s29
def qds (V:Sigma Inv) (ret:Den V.1→List UInt8→Option AV) (k0:Den V.1→List UInt8→Option AV):Nat→List UInt8→Int→Int→Den V.1→List UInt8→Option AV
 | 0=>fun _ _ _ _ _=>none
 | n+1=>(qci V) ret k0 ((qds V) ret k0 n) n
def qbv (V:Sigma Inv) (_n:Nat) (xv:Den V.1) (s29:List UInt8):Option AV :=
 (qaE V) xv s29
def qlx (V:Sigma Inv) (n:Nat) (x0:Den V.1) (x1:List UInt8):Option AV :=
 (qds V) (qaE V) ((qbv V) n) n x1 ((List.length x1:Nat):Int) (0:Int) x0 x1
def qBm (_n:Nat) (s0:List UInt8):Option AV :=
 some (.abs (qcB [.leaf (.sl .byte)]) (clInv 219 [.leaf (.sl .byte)]) (s0,()))
def qfL (s2:List UInt8) (s3:Int):Option AV:=some (.tup [(.dat (.sl .byte) s2 none),(.dat (.int .i64) s3 none)])
def qaF (n:Nat) (x:Bool×(List UInt8)×Int×Int×Unit) (y0:UInt8) (y1:Int):Bool×Bool×(Bool×(List UInt8)×Int×Int×Unit) :=
 bif x.1 then (false,false,x) else yfin (.pair (.sl .byte) (.pair (.int .i64) (.pair (.int .i64) .unit))) x (
 bif (decide (y1 < (0:Int))) then
 some (.dat (.pair .bool (.pair (.sl .byte) (.pair (.int .i64) (.pair (.int .i64) .unit)))) (false,(x.2.1,(x.2.2.1,(x.2.2.2.1,())))) none)
 else
 bif (decide ((8:Int)≤(IntKind.wrap .i64 (x.2.2.2.1+(6:Int))))) then
 bif (decide ((0:Int)≤(IntKind.wrap .i64 ((IntKind.wrap .i64 (x.2.2.2.1+(6:Int))) - (8:Int))))) then
 bif (decide (List.length x.2.1+List.length ([(UInt8.ofNat (Int.toNat (IntKind.wrap .u8 (Int.fdiv (bits .or .i64 (IntKind.wrap .i64 (x.2.2.1*2 ^ (min (Int.toNat (6:Int)) (IntKind.bits .i64)))) y1) (2 ^ (min (Int.toNat (IntKind.wrap .i64 ((IntKind.wrap .i64 (x.2.2.2.1+(6:Int))) - (8:Int)))) (IntKind.bits .i64)))))))]:List UInt8)≤room)) then
 bif (decide ((0:Int)≤(IntKind.wrap .i64 ((IntKind.wrap .i64 (x.2.2.2.1+(6:Int))) - (8:Int))))) then
 some (.dat (.pair .bool (.pair (.sl .byte) (.pair (.int .i64) (.pair (.int .i64) .unit)))) (false,((x.2.1++([(UInt8.ofNat (Int.toNat (IntKind.wrap .u8 (Int.fdiv (bits .or .i64 (IntKind.wrap .i64 (x.2.2.1*2 ^ (min (Int.toNat (6:Int)) (IntKind.bits .i64)))) y1) (2 ^ (min (Int.toNat (IntKind.wrap .i64 ((IntKind.wrap .i64 (x.2.2.2.1+(6:Int))) - (8:Int)))) (IntKind.bits .i64)))))))]:List UInt8)),((bits .and .i64 (bits .or .i64 (IntKind.wrap .i64 (x.2.2.1*2 ^ (min (Int.toNat (6:Int)) (IntKind.bits .i64)))) y1) (IntKind.wrap .i64 ((IntKind.wrap .i64 ((1:Int)*2 ^ (min (Int.toNat (IntKind.wrap .i64 ((IntKind.wrap .i64 (x.2.2.2.1+(6:Int))) - (8:Int)))) (IntKind.bits .i64)))) - (1:Int)))),((IntKind.wrap .i64 ((IntKind.wrap .i64 (x.2.2.2.1+(6:Int))) - (8:Int))),())))) none)
 else none
 else none
 else none
 else
 some (.dat (.pair .bool (.pair (.sl .byte) (.pair (.int .i64) (.pair (.int .i64) .unit)))) (false,(x.2.1,((bits .or .i64 (IntKind.wrap .i64 (x.2.2.1*2 ^ (min (Int.toNat (6:Int)) (IntKind.bits .i64)))) y1),((IntKind.wrap .i64 (x.2.2.2.1+(6:Int))),())))) none))
def qqW (n:Nat) (s0:List UInt8):Option AV :=
 bif (z219 (qaF n) (false,(([]:List UInt8),((0:Int),((0:Int),())))) s0).1 then
 bif (z219 (qaF n) (false,(([]:List UInt8),((0:Int),((0:Int),())))) s0).2.1.1 then
 qfL ([]:List UInt8) (0:Int)
 else
 both (
 both (
 qfL (z219 (qaF n) (false,(([]:List UInt8),((0:Int),((0:Int),())))) s0).2.1.2.1 (z219 (qaF n) (false,(([]:List UInt8),((0:Int),((0:Int),())))) s0).2.1.2.2.2.1) (
 qfL (z219 (qaF n) (false,(([]:List UInt8),((0:Int),((0:Int),())))) s0).2.1.2.1 (z219 (qaF n) (false,(([]:List UInt8),((0:Int),((0:Int),())))) s0).2.1.2.2.2.1)) (
 qfL (z219 (qaF n) (false,(([]:List UInt8),((0:Int),((0:Int),())))) s0).2.1.2.1 (z219 (qaF n) (false,(([]:List UInt8),((0:Int),((0:Int),())))) s0).2.1.2.2.2.1)
 else none
def qvl (s2:List UInt8):Option AV:=some (.dat (.sl .byte) s2 none)
def qxt (_n:Nat) (s0:List UInt8):Option AV :=
 bif ((qld s0)&&true) then
 qvl ((z143 s0).1)
 else none
def qfM (s2:Int) (s3:Bool):Option AV:=some (.tup [(.dat (.int .i64) s2 none),(.dat .bool s3 none)])
def qqX (_n:Nat) (c0:UInt8):Option AV :=
 bif (z129 (z126 c0) (8:Int)) then
 qfM (IntKind.wrap .i64 ((UInt8.toNat ((z126 c0) - (48:UInt8)):Nat):Int)) true
 else
 bif (decide ((97:UInt8)≤(z126 c0))) then
 bif (decide ((z126 c0)≤(102:UInt8))) then
 qfM (IntKind.wrap .i64 ((IntKind.wrap .i64 ((UInt8.toNat ((z126 c0) - (97:UInt8)):Nat):Int))+(10:Int))) true
 else
 qfM (0:Int) false
 else
 qfM (0:Int) false
def qhB (s4:UInt8) (s5:Bool):Option AV:=some (.tup [(.dat .byte s4 none),(.dat .bool s5 none)])
def qqY (_n:Nat) (a0:UInt8) (b1:UInt8):Option AV :=
 bif (!((z237 a0).2)) then
 qhB (0:UInt8) false
 else
 bif (!((z237 b1).2)) then
 qhB (0:UInt8) false
 else
 qhB (UInt8.ofNat (Int.toNat (IntKind.wrap .u8 (bits .or .i64 (IntKind.wrap .i64 (((z237 a0).1)*2 ^ (min (Int.toNat (4:Int)) (IntKind.bits .i64)))) ((z237 b1).1))))) true
def qfN (s6:UInt8) (s7:Bool):Option AV:=some (.tup [(.dat .byte s6 none),(.dat .bool s7 none)])
def qqZ (_n:Nat) (s0:List UInt8) (at1:Int) (sign2:UInt8):Option AV :=
 bif (decide (at1 < (0:Int))) then
 qfN (0:UInt8) false
 else
 bif (decide ((IntKind.wrap .i64 (((List.length s0:Nat):Int) - (3:Int))) < at1)) then
 qfN (0:UInt8) false
 else
 bif ((decide ((0:Int)≤at1))&&(decide (at1 < (List.length s0:Nat)))) then
 bif ((List.getD s0 (Int.toNat at1) (0:UInt8)) != sign2) then
 qfN (0:UInt8) false
 else
 bif ((decide ((0:Int)≤(IntKind.wrap .i64 (at1+(1:Int)))))&&(decide ((IntKind.wrap .i64 (at1+(1:Int))) < (List.length s0:Nat)))) then
 bif ((decide ((0:Int)≤(IntKind.wrap .i64 (at1+(2:Int)))))&&(decide ((IntKind.wrap .i64 (at1+(2:Int))) < (List.length s0:Nat)))) then
 qfN ((z220 (List.getD s0 (Int.toNat (IntKind.wrap .i64 (at1+(1:Int)))) (0:UInt8)) (List.getD s0 (Int.toNat (IntKind.wrap .i64 (at1+(2:Int)))) (0:UInt8))).1) ((z220 (List.getD s0 (Int.toNat (IntKind.wrap .i64 (at1+(1:Int)))) (0:UInt8)) (List.getD s0 (Int.toNat (IntKind.wrap .i64 (at1+(2:Int)))) (0:UInt8))).2)
 else none
 else none
 else none
def qfO (s2:List UInt8) (s3:Int):Option AV:=some (.tup [(.dat (.sl .byte) s2 none),(.dat (.int .i64) s3 none)])
def qeU (k0:List UInt8→Int→Option AV) (next:List UInt8→List UInt8→Int→Int→Option AV) (_n:Nat) (s0:List UInt8) (out4:List UInt8) (strange5:Int) (at6:Int):Option AV :=
 bif (decide (at6 < ((List.length s0:Nat):Int))) then
 bif ((decide ((0:Int)≤at6))&&(decide (at6 < (List.length s0:Nat)))) then
 bif ((List.getD s0 (Int.toNat at6) (0:UInt8))==(95:UInt8)) then
 bif (decide (List.length out4+List.length ([(32:UInt8)]:List UInt8)≤room)) then
 next s0 (out4++([(32:UInt8)]:List UInt8)) strange5 (IntKind.wrap .i64 (at6+(1:Int)))
 else none
 else
 bif ((List.getD s0 (Int.toNat at6) (0:UInt8))==(61:UInt8)) then
 bif ((qla s0 at6 (61:UInt8))&&true) then
 bif ((z189 s0 at6 (61:UInt8)).2) then
 bif (decide (List.length out4+List.length ([((z189 s0 at6 (61:UInt8)).1)]:List UInt8)≤room)) then
 next s0 (out4++([((z189 s0 at6 (61:UInt8)).1)]:List UInt8)) strange5 (IntKind.wrap .i64 (at6+(3:Int)))
 else none
 else
 bif (decide (List.length out4+List.length ([(List.getD s0 (Int.toNat at6) (0:UInt8))]:List UInt8)≤room)) then
 next s0 (out4++([(List.getD s0 (Int.toNat at6) (0:UInt8))]:List UInt8)) (IntKind.wrap .i64 (strange5+(1:Int))) (IntKind.wrap .i64 (at6+(1:Int)))
 else none
 else none
 else
 bif (decide (List.length out4+List.length ([(List.getD s0 (Int.toNat at6) (0:UInt8))]:List UInt8)≤room)) then
 next s0 (out4++([(List.getD s0 (Int.toNat at6) (0:UInt8))]:List UInt8)) strange5 (IntKind.wrap .i64 (at6+(1:Int)))
 else none
 else none
 else
 k0 out4 strange5
def qfP (k0:List UInt8→Int→Option AV):Nat→List UInt8→List UInt8→Int→Int→Option AV
 | 0=>fun _ _ _ _=>none
 | n+1=>qeU k0 (qfP k0 n) n
def qdt (_n:Nat) (out4:List UInt8) (strange5:Int):Option AV :=
 qfO out4 strange5
def qra (n:Nat) (s0:List UInt8):Option AV :=
 qfP (qdt n) n s0 ([]:List UInt8) (0:Int) (0:Int)
def qvm (s2:List UInt8):Option AV:=some (.dat (.sl .byte) s2 none)
def qxu (_n:Nat) (s0:List UInt8):Option AV :=
 bif ((qle s0)&&true) then
 qvm ((z144 s0).1)
 else none
def qrb (s2:List UInt8):Option AV:=some (.dat (.sl .byte) s2 none)
def qxv (_n:Nat) (w0:(List UInt8)×(Int×((List UInt8)×Unit))):Option AV :=
 bif (w0.2.1==(1:Int)) then
 bif ((qtk w0.2.2.1)&&true) then
 qrb (z98 w0.2.2.1)
 else none
 else
 bif ((qtl w0.2.2.1)&&true) then
 qrb (z99 w0.2.2.1)
 else none
def qiL (s2:List Int) (s3:Bool):Option AV:=some (.tup [(.dat (.sl (.int .i32)) s2 none),(.dat .bool s3 none)])
def qxw (_n:Nat) (s0:List UInt8):Option AV :=
 bif ((qiT s0)&&true) then
 bif (((z11 s0).2) != (0:Int)) then
 qiL ([]:List Int) false
 else
 both (
 both (
 bif ((qmA ((z11 s0).1))&&true) then
 bif ((qmB ((z11 s0).1))&&true) then
 bif ((qmz (z53 ((z11 s0).1)) (z54 ((z11 s0).1)))&&true) then
 qiL (z52 (z53 ((z11 s0).1)) (z54 ((z11 s0).1))) true
 else none
 else none
 else none) (
 bif ((qmA ((z11 s0).1))&&true) then
 bif ((qmB ((z11 s0).1))&&true) then
 bif ((qmz (z53 ((z11 s0).1)) (z54 ((z11 s0).1)))&&true) then
 qiL (z52 (z53 ((z11 s0).1)) (z54 ((z11 s0).1))) true
 else none
 else none
 else none)) (
 bif ((qmA ((z11 s0).1))&&true) then
 bif ((qmB ((z11 s0).1))&&true) then
 bif ((qmz (z53 ((z11 s0).1)) (z54 ((z11 s0).1)))&&true) then
 qiL (z52 (z53 ((z11 s0).1)) (z54 ((z11 s0).1))) true
 else none
 else none
 else none)
 else none
def qer (s0:Bool):Option AV:=some (.dat .bool s0 none)
def qBn (_n:Nat):Option AV :=
 bif ((qwy ([(61:UInt8),(63:UInt8),(117:UInt8),(116:UInt8),(102:UInt8),(45:UInt8),(56:UInt8),(63:UInt8),(81:UInt8),(63:UInt8),(61:UInt8),(67:UInt8),(51:UInt8),(61:UInt8),(65:UInt8),(57:UInt8),(63:UInt8),(61:UInt8)]:List UInt8))&&true) then
 bif ((qwz (2:Int) (1:Int) ([(233:UInt8)]:List UInt8))&&true) then
 bif (((List.length ((z19 ([(61:UInt8),(63:UInt8),(117:UInt8),(116:UInt8),(102:UInt8),(45:UInt8),(56:UInt8),(63:UInt8),(81:UInt8),(63:UInt8),(61:UInt8),(67:UInt8),(51:UInt8),(61:UInt8),(65:UInt8),(57:UInt8),(63:UInt8),(61:UInt8)]:List UInt8)).1):Nat):Int)==(1:Int)) then
 bif ((decide ((0:Int)≤(0:Int)))&&(decide ((0:Int) < (List.length ((z19 ([(61:UInt8),(63:UInt8),(117:UInt8),(116:UInt8),(102:UInt8),(45:UInt8),(56:UInt8),(63:UInt8),(81:UInt8),(63:UInt8),(61:UInt8),(67:UInt8),(51:UInt8),(61:UInt8),(65:UInt8),(57:UInt8),(63:UInt8),(61:UInt8)]:List UInt8)).1):Nat)))) then
 bif ((List.getD ((z19 ([(61:UInt8),(63:UInt8),(117:UInt8),(116:UInt8),(102:UInt8),(45:UInt8),(56:UInt8),(63:UInt8),(81:UInt8),(63:UInt8),(61:UInt8),(67:UInt8),(51:UInt8),(61:UInt8),(65:UInt8),(57:UInt8),(63:UInt8),(61:UInt8)]:List UInt8)).1) (Int.toNat (0:Int)) (0:Int))==(233:Int)) then
 bif ((z19 ([(61:UInt8),(63:UInt8),(117:UInt8),(116:UInt8),(102:UInt8),(45:UInt8),(56:UInt8),(63:UInt8),(81:UInt8),(63:UInt8),(61:UInt8),(67:UInt8),(51:UInt8),(61:UInt8),(65:UInt8),(57:UInt8),(63:UInt8),(61:UInt8)]:List UInt8)).2) then
 bif (((z15 (2:Int) (1:Int) ([(233:UInt8)]:List UInt8)).1)==([61,63,105,115,111,45,56,56,53,57,45,49,63,66,63,54,81,61,61,63,61]:List UInt8)) then
 bif (((z15 (2:Int) (1:Int) ([(233:UInt8)]:List UInt8)).2)==(0:Int)) then
 bif ((z17 (5:Int))==(12:Int)) then
 bif ((qro ([(61:UInt8),(63:UInt8),(97:UInt8),(63:UInt8),(99:UInt8),(63:UInt8),(98:UInt8),(63:UInt8),(61:UInt8)]:List UInt8))&&true) then
 qer (!(z14 ([(61:UInt8),(63:UInt8),(97:UInt8),(63:UInt8),(99:UInt8),(63:UInt8),(98:UInt8),(63:UInt8),(61:UInt8)]:List UInt8)))
 else none
 else
 qer false
 else
 qer false
 else
 qer false
 else
 qer false
 else
 qer false
 else none
 else
 qer false
 else none
 else none
def qvn (s2:List (List UInt8)):Option AV:=some (.dat (.sl (.sl .byte)) s2 none)
def qed (k0:List (List UInt8)→Option AV) (next:List UInt8→List (List UInt8)→Int→Option AV) (_n:Nat) (s0:List UInt8) (out3:List (List UInt8)) (i4:Int):Option AV :=
 bif (decide (i4 < ((List.length s0:Nat):Int))) then
 bif ((decide ((0:Int)≤i4))&&(decide (i4 < (List.length s0:Nat)))) then
 bif ((List.getD s0 (Int.toNat i4) (0:UInt8))==(63:UInt8)) then
 bif (decide (List.length out3+List.length ([([]:List UInt8)]:List (List UInt8))≤room)) then
 next s0 (out3++([([]:List UInt8)]:List (List UInt8))) (IntKind.wrap .i64 (i4+(1:Int)))
 else none
 else
 bif ((decide ((0:Int)≤(IntKind.wrap .i64 (((List.length out3:Nat):Int) - (1:Int)))))&&(decide ((IntKind.wrap .i64 (((List.length out3:Nat):Int) - (1:Int))) < (List.length out3:Nat)))) then
 bif ((decide ((0:Int)≤i4))&&(decide (i4 < (List.length s0:Nat)))) then
 bif (decide (List.length (List.getD out3 (Int.toNat (IntKind.wrap .i64 (((List.length out3:Nat):Int) - (1:Int)))) ([]:List UInt8))+List.length ([(List.getD s0 (Int.toNat i4) (0:UInt8))]:List UInt8)≤room)) then
 bif ((decide ((0:Int)≤(IntKind.wrap .i64 (((List.length out3:Nat):Int) - (1:Int)))))&&(decide ((IntKind.wrap .i64 (((List.length out3:Nat):Int) - (1:Int))) < (List.length out3:Nat)))) then
 bif (((Int.toNat (IntKind.wrap .i64 (((List.length out3:Nat):Int) - (1:Int))))==(Int.toNat (IntKind.wrap .i64 (((List.length out3:Nat):Int) - (1:Int)))))&&true) then
 next s0 (List.set out3 (Int.toNat (IntKind.wrap .i64 (((List.length out3:Nat):Int) - (1:Int)))) ((List.getD out3 (Int.toNat (IntKind.wrap .i64 (((List.length out3:Nat):Int) - (1:Int)))) ([]:List UInt8))++([(List.getD s0 (Int.toNat i4) (0:UInt8))]:List UInt8))) (IntKind.wrap .i64 (i4+(1:Int)))
 else none
 else none
 else none
 else none
 else none
 else none
 else
 k0 out3
def qhC (k0:List (List UInt8)→Option AV):Nat→List UInt8→List (List UInt8)→Int→Option AV
 | 0=>fun _ _ _=>none
 | n+1=>qed k0 (qhC k0 n) n
def qfQ (_n:Nat) (out3:List (List UInt8)):Option AV :=
 qvn out3
def qtS (n:Nat) (s0:List UInt8):Option AV :=
 qhC (qfQ n) n s0 ([([]:List UInt8)]:List (List UInt8)) (0:Int)
def qly (s2:UInt8):Option AV:=some (.dat .byte s2 none)
def qxx (_n:Nat) (c0:UInt8):Option AV :=
 bif (decide ((65:UInt8)≤c0)) then
 bif (decide (c0≤(90:UInt8))) then
 qly (c0+(32:UInt8))
 else
 qly c0
 else
 qly c0
def qlz (s2:Int):Option AV:=some (.dat (.int .i64) s2 none)
def qxy (_n:Nat) (c0:UInt8):Option AV :=
 bif ((z81 c0)==(98:UInt8)) then
 qlz (1:Int)
 else
 bif ((z81 c0)==(113:UInt8)) then
 qlz (2:Int)
 else
 qlz (0:Int)
def qee (s4:Bool):Option AV:=some (.dat .bool s4 none)
def qcj (ret:Bool→Option AV) (k0:Option AV) (next:List UInt8→UInt8→Int→Option AV) (_n:Nat) (s0:List UInt8) (c1:UInt8) (i5:Int):Option AV :=
 bif (decide (i5 < ((List.length s0:Nat):Int))) then
 bif ((decide ((0:Int)≤i5))&&(decide (i5 < (List.length s0:Nat)))) then
 bif ((List.getD s0 (Int.toNat i5) (0:UInt8))==c1) then
 ret true
 else
 next s0 c1 (IntKind.wrap .i64 (i5+(1:Int)))
 else none
 else
 k0
def qdu (ret:Bool→Option AV) (k0:Option AV):Nat→List UInt8→UInt8→Int→Option AV
 | 0=>fun _ _ _=>none
 | n+1=>qcj ret k0 (qdu ret k0 n) n
def qdv (_n:Nat):Option AV :=
 qee false
def qiM (n:Nat) (s0:List UInt8) (c1:UInt8):Option AV :=
 qdu qee (qdv n) n s0 c1 (0:Int)
def qvo (s4:Bool):Option AV:=some (.dat .bool s4 none)
def qBo (_n:Nat) (c0:UInt8) (kinds1:Int):Option AV :=
 qvo ((bits .and .i64 (z128 c0) kinds1) != (0:Int))
def qvp (s4:Int):Option AV:=some (.dat (.int .i64) s4 none)
def qef (k0:Int→Option AV) (next:List UInt8→Int→Int→Int→Option AV) (_n:Nat) (s0:List UInt8) (kinds1:Int) (n5:Int) (i6:Int):Option AV :=
 bif (decide (i6 < ((List.length s0:Nat):Int))) then
 bif ((decide ((0:Int)≤i6))&&(decide (i6 < (List.length s0:Nat)))) then
 bif (z82 (List.getD s0 (Int.toNat i6) (0:UInt8)) kinds1) then
 next s0 kinds1 (IntKind.wrap .i64 (n5+(1:Int))) (IntKind.wrap .i64 (i6+(1:Int)))
 else
 next s0 kinds1 n5 (IntKind.wrap .i64 (i6+(1:Int)))
 else none
 else
 k0 n5
def qhD (k0:Int→Option AV):Nat→List UInt8→Int→Int→Int→Option AV
 | 0=>fun _ _ _ _=>none
 | n+1=>qef k0 (qhD k0 n) n
def qfR (_n:Nat) (n5:Int):Option AV :=
 qvp n5
def qtT (n:Nat) (s0:List UInt8) (kinds1:Int):Option AV :=
 qhD (qfR n) n s0 kinds1 (0:Int) (0:Int)
def qaP (s2:(List UInt8)×(Int×((List UInt8)×Unit))) (s3:Int):Option AV:=some (.tup [(.dat (.pair (.sl .byte) (.pair (.int .i64) (.pair (.sl .byte) .unit))) s2 none),(.dat (.int .i64) s3 none)])
def qxz (_n:Nat) (s0:List UInt8):Option AV :=
 bif ((quC s0)&&true) then
 bif (((List.length (z41 s0):Nat):Int) != (5:Int)) then
 qaP (([]:List UInt8),((0:Int),(([]:List UInt8),()))) (3:Int)
 else
 bif ((decide ((0:Int)≤(0:Int)))&&(decide ((0:Int) < (List.length (z41 s0):Nat)))) then
 bif ((List.getD (z41 s0) (Int.toNat (0:Int)) ([]:List UInt8)) != ([61]:List UInt8)) then
 qaP (([]:List UInt8),((0:Int),(([]:List UInt8),()))) (3:Int)
 else
 bif ((decide ((0:Int)≤(4:Int)))&&(decide ((4:Int) < (List.length (z41 s0):Nat)))) then
 bif ((List.getD (z41 s0) (Int.toNat (4:Int)) ([]:List UInt8)) != ([61]:List UInt8)) then
 qaP (([]:List UInt8),((0:Int),(([]:List UInt8),()))) (3:Int)
 else
 bif ((decide ((0:Int)≤(2:Int)))&&(decide ((2:Int) < (List.length (z41 s0):Nat)))) then
 bif (((List.length (List.getD (z41 s0) (Int.toNat (2:Int)) ([]:List UInt8)):Nat):Int) != (1:Int)) then
 qaP (([]:List UInt8),((0:Int),(([]:List UInt8),()))) (3:Int)
 else
 bif ((decide ((0:Int)≤(2:Int)))&&(decide ((2:Int) < (List.length (z41 s0):Nat)))) then
 bif ((decide ((0:Int)≤(0:Int)))&&(decide ((0:Int) < (List.length (List.getD (z41 s0) (Int.toNat (2:Int)) ([]:List UInt8)):Nat)))) then
 bif ((z42 (List.getD (List.getD (z41 s0) (Int.toNat (2:Int)) ([]:List UInt8)) (Int.toNat (0:Int)) (0:UInt8)))==(0:Int)) then
 qaP (([]:List UInt8),((0:Int),(([]:List UInt8),()))) (3:Int)
 else
 bif ((decide ((0:Int)≤(1:Int)))&&(decide ((1:Int) < (List.length (z41 s0):Nat)))) then
 bif (((List.length (List.getD (z41 s0) (Int.toNat (1:Int)) ([]:List UInt8)):Nat):Int)==(0:Int)) then
 qaP (([]:List UInt8),((0:Int),(([]:List UInt8),()))) (3:Int)
 else
 bif ((decide ((0:Int)≤(1:Int)))&&(decide ((1:Int) < (List.length (z41 s0):Nat)))) then
 bif ((decide ((0:Int)≤(1:Int)))&&(decide ((1:Int) < (List.length (z41 s0):Nat)))) then
 bif ((qmR (List.getD (z41 s0) (Int.toNat (1:Int)) ([]:List UInt8)) (64:Int))&&true) then
 bif ((z43 (List.getD (z41 s0) (Int.toNat (1:Int)) ([]:List UInt8)) (64:Int)) != ((List.length (List.getD (z41 s0) (Int.toNat (1:Int)) ([]:List UInt8)):Nat):Int)) then
 qaP (([]:List UInt8),((0:Int),(([]:List UInt8),()))) (3:Int)
 else
 bif ((decide ((0:Int)≤(3:Int)))&&(decide ((3:Int) < (List.length (z41 s0):Nat)))) then
 bif (((List.length (List.getD (z41 s0) (Int.toNat (3:Int)) ([]:List UInt8)):Nat):Int)==(0:Int)) then
 qaP (([]:List UInt8),((0:Int),(([]:List UInt8),()))) (3:Int)
 else
 bif ((decide ((0:Int)≤(3:Int)))&&(decide ((3:Int) < (List.length (z41 s0):Nat)))) then
 bif ((decide ((0:Int)≤(3:Int)))&&(decide ((3:Int) < (List.length (z41 s0):Nat)))) then
 bif ((qmR (List.getD (z41 s0) (Int.toNat (3:Int)) ([]:List UInt8)) (4:Int))&&true) then
 bif ((z43 (List.getD (z41 s0) (Int.toNat (3:Int)) ([]:List UInt8)) (4:Int)) != ((List.length (List.getD (z41 s0) (Int.toNat (3:Int)) ([]:List UInt8)):Nat):Int)) then
 qaP (([]:List UInt8),((0:Int),(([]:List UInt8),()))) (3:Int)
 else
 bif (decide ((75:Int) < ((List.length s0:Nat):Int))) then
 qaP (([]:List UInt8),((0:Int),(([]:List UInt8),()))) (12:Int)
 else
 bif ((decide ((0:Int)≤(1:Int)))&&(decide ((1:Int) < (List.length (z41 s0):Nat)))) then
 bif ((decide ((0:Int)≤(2:Int)))&&(decide ((2:Int) < (List.length (z41 s0):Nat)))) then
 bif ((decide ((0:Int)≤(0:Int)))&&(decide ((0:Int) < (List.length (List.getD (z41 s0) (Int.toNat (2:Int)) ([]:List UInt8)):Nat)))) then
 bif ((decide ((0:Int)≤(3:Int)))&&(decide ((3:Int) < (List.length (z41 s0):Nat)))) then
 qaP ((List.getD (z41 s0) (Int.toNat (1:Int)) ([]:List UInt8)),((z42 (List.getD (List.getD (z41 s0) (Int.toNat (2:Int)) ([]:List UInt8)) (Int.toNat (0:Int)) (0:UInt8))),((List.getD (z41 s0) (Int.toNat (3:Int)) ([]:List UInt8)),()))) (0:Int)
 else none
 else none
 else none
 else none
 else none
 else none
 else none
 else none
 else none
 else none
 else none
 else none
 else none
 else none
 else none
 else none
 else none
 else none
def qgv (s4:Bool):Option AV:=some (.dat .bool s4 none)
def qeg (ret:Bool→Option AV) (k0:Option AV) (next:List UInt8→List UInt8→Int→Option AV) (_n:Nat) (a0:List UInt8) (b1:List UInt8) (i5:Int):Option AV :=
 bif (decide (i5 < ((List.length a0:Nat):Int))) then
 bif ((decide ((0:Int)≤i5))&&(decide (i5 < (List.length a0:Nat)))) then
 bif ((decide ((0:Int)≤i5))&&(decide (i5 < (List.length b1:Nat)))) then
 bif ((List.getD a0 (Int.toNat i5) (0:UInt8)) != (List.getD b1 (Int.toNat i5) (0:UInt8))) then
 ret false
 else
 next a0 b1 (IntKind.wrap .i64 (i5+(1:Int)))
 else none
 else none
 else
 k0
def qhE (ret:Bool→Option AV) (k0:Option AV):Nat→List UInt8→List UInt8→Int→Option AV
 | 0=>fun _ _ _=>none
 | n+1=>qeg ret k0 (qhE ret k0 n) n
def qhF (_n:Nat):Option AV :=
 qgv true
def qtU (n:Nat) (a0:List UInt8) (b1:List UInt8):Option AV :=
 bif (((List.length a0:Nat):Int) != ((List.length b1:Nat):Int)) then
 qgv false
 else
 qhE qgv (qhF n) n a0 b1 (0:Int)
def qiN (s2:Bool):Option AV:=some (.dat .bool s2 none)
def z3_sh (_n:Nat) (s0:List UInt8):Option AV :=
 bif (decide ((500:Int) < ((List.length s0:Nat):Int))) then
 qiN z10
 else
 bif ((qiT s0)&&true) then
 bif ((quD s0)&&true) then
 bif ((qmP ((z11 s0).1).1 ((z12 s0).1).1)&&true) then
 bif (z13 ((z11 s0).1).1 ((z12 s0).1).1) then
 bif (((z11 s0).1).2.1==((z12 s0).1).2.1) then
 bif ((qmP ((z11 s0).1).2.2.1 ((z12 s0).1).2.2.1)&&true) then
 bif (z13 ((z11 s0).1).2.2.1 ((z12 s0).1).2.2.1) then
 bif (((z11 s0).2)==((z12 s0).2)) then
 bif ((qro s0)&&true) then
 bif ((z14 s0)==(((z12 s0).2)==(0:Int))) then
 qiN z10
 else
 qiN false
 else none
 else
 qiN false
 else
 qiN false
 else none
 else
 qiN false
 else
 qiN false
 else none
 else none
 else none
end
end Go.Av
