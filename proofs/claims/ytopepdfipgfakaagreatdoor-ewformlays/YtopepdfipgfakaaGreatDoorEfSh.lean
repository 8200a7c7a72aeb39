import Derived.Test.YtopepdfipgfakaaGreatDoorEfM
import Derived.Test.YtopepdfipgfakaaGreatDoorAvE
namespace Go.Av
set_option linter.unusedSimpArgs false
set_option linter.unusedVariables false
noncomputable section
def qqZ (s4:Int):Option AV:=some (.dat (.int .i64) s4 none)
def qwo (_n:Nat) (b0:List UInt8) (c1:UInt8):Option AV :=
 qqZ (z151 b0 c1)
def qfR (s4:Int):Option AV:=some (.dat (.int .i64) s4 none)
def qlR (ret:Int→Option AV) (next:List UInt8→List UInt8→Int→Option AV) (_n:Nat) (s0:List UInt8) (sep1:List UInt8) (n5:Int):Option AV :=
 bif ((qgP s0 sep1)&&true) then
 bif ((z125 s0 sep1)==(-1:Int)) then
 ret n5
 else
 bif (((decide ((0:Int)≤(IntKind.wrap .i64 ((z125 s0 sep1)+((List.length sep1:Nat):Int)))))&&(decide ((IntKind.wrap .i64 ((z125 s0 sep1)+((List.length sep1:Nat):Int)))≤((List.length s0:Nat):Int))))&&(decide (((List.length s0:Nat):Int)≤((List.length s0:Nat):Int)))) then
 next (List.drop (Int.toNat (IntKind.wrap .i64 ((z125 s0 sep1)+((List.length sep1:Nat):Int)))) (List.take (Int.toNat ((List.length s0:Nat):Int)) s0)) sep1 (IntKind.wrap .i64 (n5+(1:Int)))
 else none
 else none
def qgE (ret:Int→Option AV):Nat→List UInt8→List UInt8→Int→Option AV
 | 0=>fun _ _ _=>none
 | n+1=>qlR ret (qgE ret n) n
def qra (n:Nat) (s0:List UInt8) (sep1:List UInt8):Option AV :=
 bif (((List.length sep1:Nat):Int)==(0:Int)) then
 bif ((qwP s0)&&true) then
 qfR (IntKind.wrap .i64 ((z173 s0)+(1:Int)))
 else none
 else
 bif (((List.length sep1:Nat):Int)==(1:Int)) then
 bif ((decide ((0:Int)≤(0:Int)))&&(decide ((0:Int) < (List.length sep1:Nat)))) then
 qfR (z174 s0 (List.getD sep1 (Int.toNat (0:Int)) (0:UInt8)))
 else none
 else
 qgE qfR n s0 sep1 (0:Int)
def qiY (s8:List (List UInt8)):Option AV:=some (.dat (.sl (.sl .byte)) s8 none)
def qcl (k0:List UInt8→List (List UInt8)→Int→Option AV) (next:List UInt8→List UInt8→Int→Int→List (List UInt8)→Int→Option AV) (_n:Nat) (s0:List UInt8) (sep1:List UInt8) (sepSave2:Int) (n3:Int) (a9:List (List UInt8)) (i10:Int):Option AV :=
 bif (decide (i10 < n3)) then
 bif ((qgP s0 sep1)&&true) then
 bif (decide ((z125 s0 sep1) < (0:Int))) then
 k0 s0 a9 i10
 else
 bif ((((decide ((0:Int)≤((0:Nat):Int)))&&(decide (((0:Nat):Int)≤(IntKind.wrap .i64 ((z125 s0 sep1)+sepSave2)))))&&(decide ((IntKind.wrap .i64 ((z125 s0 sep1)+sepSave2))≤(IntKind.wrap .i64 ((z125 s0 sep1)+sepSave2)))))&&(decide ((IntKind.wrap .i64 ((z125 s0 sep1)+sepSave2))≤((List.length s0:Nat):Int)))) then
 bif ((decide ((0:Int)≤i10))&&(decide (i10 < (List.length a9:Nat)))) then
 bif (((decide ((0:Int)≤(IntKind.wrap .i64 ((z125 s0 sep1)+((List.length sep1:Nat):Int)))))&&(decide ((IntKind.wrap .i64 ((z125 s0 sep1)+((List.length sep1:Nat):Int)))≤((List.length s0:Nat):Int))))&&(decide (((List.length s0:Nat):Int)≤((List.length s0:Nat):Int)))) then
 next (List.drop (Int.toNat (IntKind.wrap .i64 ((z125 s0 sep1)+((List.length sep1:Nat):Int)))) (List.take (Int.toNat ((List.length s0:Nat):Int)) s0)) sep1 sepSave2 n3 (List.set a9 (Int.toNat i10) (List.drop (Int.toNat ((0:Nat):Int)) (List.take (Int.toNat (IntKind.wrap .i64 ((z125 s0 sep1)+sepSave2))) s0))) (IntKind.wrap .i64 (i10+(1:Int)))
 else none
 else none
 else none
 else none
 else
 k0 s0 a9 i10
def qcC (k0:List UInt8→List (List UInt8)→Int→Option AV):Nat→List UInt8→List UInt8→Int→Int→List (List UInt8)→Int→Option AV
 | 0=>fun _ _ _ _ _ _=>none
 | n+1=>qcl k0 (qcC k0 n) n
def qac (_n:Nat) (s0:List UInt8) (a9:List (List UInt8)) (i10:Int):Option AV :=
 bif ((decide ((0:Int)≤i10))&&(decide (i10 < (List.length a9:Nat)))) then
 bif (((decide ((0:Int)≤((0:Nat):Int)))&&(decide (((0:Nat):Int)≤(IntKind.wrap .i64 (i10+(1:Int))))))&&(decide ((IntKind.wrap .i64 (i10+(1:Int)))≤((List.length (List.set a9 (Int.toNat i10) s0):Nat):Int)))) then
 qiY (List.drop (Int.toNat ((0:Nat):Int)) (List.take (Int.toNat (IntKind.wrap .i64 (i10+(1:Int)))) (List.set a9 (Int.toNat i10) s0)))
 else none
 else none
def quZ (n:Nat) (s0:List UInt8) (sep1:List UInt8) (sepSave2:Int) (n3:Int):Option AV :=
 bif (n3==(0:Int)) then
 qiY ([]:List (List UInt8))
 else
 bif (((List.length sep1:Nat):Int)==(0:Int)) then
 bif ((qwQ s0 n3)&&true) then
 qiY (z123 s0 n3)
 else none
 else
 bif (decide (n3 < (0:Int))) then
 bif ((qgO s0 sep1)&&true) then
 bif (((decide ((0:Int)≤(bif (decide ((IntKind.wrap .i64 (((List.length s0:Nat):Int)+(1:Int))) < (IntKind.wrap .i64 ((z124 s0 sep1)+(1:Int))))) then (IntKind.wrap .i64 (((List.length s0:Nat):Int)+(1:Int))) else (IntKind.wrap .i64 ((z124 s0 sep1)+(1:Int))))))&&(decide ((bif (decide ((IntKind.wrap .i64 (((List.length s0:Nat):Int)+(1:Int))) < (IntKind.wrap .i64 ((z124 s0 sep1)+(1:Int))))) then (IntKind.wrap .i64 (((List.length s0:Nat):Int)+(1:Int))) else (IntKind.wrap .i64 ((z124 s0 sep1)+(1:Int))))≤(bif (decide ((IntKind.wrap .i64 (((List.length s0:Nat):Int)+(1:Int))) < (IntKind.wrap .i64 ((z124 s0 sep1)+(1:Int))))) then (IntKind.wrap .i64 (((List.length s0:Nat):Int)+(1:Int))) else (IntKind.wrap .i64 ((z124 s0 sep1)+(1:Int)))))))&&(decide ((bif (decide ((IntKind.wrap .i64 (((List.length s0:Nat):Int)+(1:Int))) < (IntKind.wrap .i64 ((z124 s0 sep1)+(1:Int))))) then (IntKind.wrap .i64 (((List.length s0:Nat):Int)+(1:Int))) else (IntKind.wrap .i64 ((z124 s0 sep1)+(1:Int))))≤(room:Int)))) then
 qcC (qac n) n s0 sep1 sepSave2 (IntKind.wrap .i64 ((bif (decide ((IntKind.wrap .i64 (((List.length s0:Nat):Int)+(1:Int))) < (IntKind.wrap .i64 ((z124 s0 sep1)+(1:Int))))) then (IntKind.wrap .i64 (((List.length s0:Nat):Int)+(1:Int))) else (IntKind.wrap .i64 ((z124 s0 sep1)+(1:Int)))) - (1:Int))) (List.replicate (Int.toNat (bif (decide ((IntKind.wrap .i64 (((List.length s0:Nat):Int)+(1:Int))) < (IntKind.wrap .i64 ((z124 s0 sep1)+(1:Int))))) then (IntKind.wrap .i64 (((List.length s0:Nat):Int)+(1:Int))) else (IntKind.wrap .i64 ((z124 s0 sep1)+(1:Int))))) ([]:List UInt8)) (0:Int)
 else none
 else none
 else
 bif (((decide ((0:Int)≤(bif (decide ((IntKind.wrap .i64 (((List.length s0:Nat):Int)+(1:Int))) < n3)) then (IntKind.wrap .i64 (((List.length s0:Nat):Int)+(1:Int))) else n3)))&&(decide ((bif (decide ((IntKind.wrap .i64 (((List.length s0:Nat):Int)+(1:Int))) < n3)) then (IntKind.wrap .i64 (((List.length s0:Nat):Int)+(1:Int))) else n3)≤(bif (decide ((IntKind.wrap .i64 (((List.length s0:Nat):Int)+(1:Int))) < n3)) then (IntKind.wrap .i64 (((List.length s0:Nat):Int)+(1:Int))) else n3))))&&(decide ((bif (decide ((IntKind.wrap .i64 (((List.length s0:Nat):Int)+(1:Int))) < n3)) then (IntKind.wrap .i64 (((List.length s0:Nat):Int)+(1:Int))) else n3)≤(room:Int)))) then
 qcC (qac n) n s0 sep1 sepSave2 (IntKind.wrap .i64 ((bif (decide ((IntKind.wrap .i64 (((List.length s0:Nat):Int)+(1:Int))) < n3)) then (IntKind.wrap .i64 (((List.length s0:Nat):Int)+(1:Int))) else n3) - (1:Int))) (List.replicate (Int.toNat (bif (decide ((IntKind.wrap .i64 (((List.length s0:Nat):Int)+(1:Int))) < n3)) then (IntKind.wrap .i64 (((List.length s0:Nat):Int)+(1:Int))) else n3)) ([]:List UInt8)) (0:Int)
 else none
def qwp (s4:List (List UInt8)):Option AV:=some (.dat (.sl (.sl .byte)) s4 none)
def qyu (_n:Nat) (s0:List UInt8) (sep1:List UInt8):Option AV :=
 bif ((qnC s0 sep1 (0:Int) (-1:Int))&&true) then
 qwp (z78 s0 sep1 (0:Int) (-1:Int))
 else none
def qhQ (s2:UInt8):Option AV:=some (.dat .byte s2 none)
def qrb (_n:Nat) (c0:UInt8):Option AV :=
 bif (decide ((65:UInt8)≤c0)) then
 bif (decide (c0≤(90:UInt8))) then
 qhQ (c0 ||| (32:UInt8))
 else
 qhQ c0
 else
 qhQ c0
def qwq (s2:List UInt8):Option AV:=some (.dat (.sl .byte) s2 (some (2,5)))
def qee (k0:List UInt8→Option AV) (next:List UInt8→Int→Int→Option AV) (_n:Nat) (out3:List UInt8) (s9:Int) (s10:Int):Option AV :=
 bif (decide (s10 < s9)) then
 bif ((decide ((0:Int)≤s10))&&(decide (s10 < (List.length out3:Nat)))) then
 bif ((decide ((0:Int)≤s10))&&(decide (s10 < (List.length out3:Nat)))) then
 next (List.set out3 (Int.toNat s10) (z126 (List.getD out3 (Int.toNat s10) (0:UInt8)))) s9 (IntKind.wrap .i64 (s10+(1:Int)))
 else none
 else none
 else
 k0 out3
def qhR (k0:List UInt8→Option AV):Nat→List UInt8→Int→Int→Option AV
 | 0=>fun _ _ _=>none
 | n+1=>qee k0 (qhR k0 n) n
def qfS (_n:Nat) (out3:List UInt8):Option AV :=
 qwq out3
def qva (n:Nat) (s0:List UInt8):Option AV :=
 bif ((qcU s0)&&true) then
 qhR (qfS n) n (z38 s0) ((List.length (z38 s0):Nat):Int) (0:Int)
 else none
def qiZ (s2:Int):Option AV:=some (.dat (.int .i64) s2 none)
def qyv (_n:Nat) (s0:List UInt8):Option AV :=
 bif ((qnF s0)&&true) then
 bif ((z79 s0)==([98]:List UInt8)) then
 qiZ (1:Int)
 else
 bif ((z79 s0)==([113]:List UInt8)) then
 qiZ (2:Int)
 else
 qiZ (0:Int)
 else none
def qf (s2:Int):Option AV:=some (.dat (.int .i64) s2 none)
def qrc (_n:Nat) (c0:UInt8):Option AV :=
 bif (decide (c0 < (32:UInt8))) then
 bif (c0==(32:UInt8)) then
 qf (bits .or .i64 (bits .or .i64 (0:Int) (1:Int)) (2:Int))
 else
 bif (c0==(9:UInt8)) then
 qf (bits .or .i64 (bits .or .i64 (0:Int) (1:Int)) (2:Int))
 else
 bif (decide ((48:UInt8)≤c0)) then
 bif (decide (c0≤(57:UInt8))) then
 qf (bits .or .i64 (bits .or .i64 (0:Int) (1:Int)) (648:Int))
 else
 bif (decide ((65:UInt8)≤c0)) then
 bif (decide (c0≤(90:UInt8))) then
 bif (decide (c0≤(90:UInt8))) then
 qf (bits .or .i64 (bits .or .i64 (0:Int) (1:Int)) (656:Int))
 else
 qf (bits .or .i64 (0:Int) (1:Int))
 else
 bif (decide ((97:UInt8)≤c0)) then
 bif (decide (c0≤(122:UInt8))) then
 qf (bits .or .i64 (bits .or .i64 (0:Int) (1:Int)) (656:Int))
 else
 qf (bits .or .i64 (0:Int) (1:Int))
 else
 qf (bits .or .i64 (0:Int) (1:Int))
 else
 bif (decide ((97:UInt8)≤c0)) then
 bif (decide (c0≤(122:UInt8))) then
 qf (bits .or .i64 (bits .or .i64 (0:Int) (1:Int)) (656:Int))
 else
 qf (bits .or .i64 (0:Int) (1:Int))
 else
 qf (bits .or .i64 (0:Int) (1:Int))
 else
 bif (decide ((65:UInt8)≤c0)) then
 bif (decide (c0≤(90:UInt8))) then
 bif (decide (c0≤(90:UInt8))) then
 qf (bits .or .i64 (bits .or .i64 (0:Int) (1:Int)) (656:Int))
 else
 qf (bits .or .i64 (0:Int) (1:Int))
 else
 bif (decide ((97:UInt8)≤c0)) then
 bif (decide (c0≤(122:UInt8))) then
 qf (bits .or .i64 (bits .or .i64 (0:Int) (1:Int)) (656:Int))
 else
 qf (bits .or .i64 (0:Int) (1:Int))
 else
 qf (bits .or .i64 (0:Int) (1:Int))
 else
 bif (decide ((97:UInt8)≤c0)) then
 bif (decide (c0≤(122:UInt8))) then
 qf (bits .or .i64 (bits .or .i64 (0:Int) (1:Int)) (656:Int))
 else
 qf (bits .or .i64 (0:Int) (1:Int))
 else
 qf (bits .or .i64 (0:Int) (1:Int))
 else
 bif (c0==(127:UInt8)) then
 bif (c0==(32:UInt8)) then
 qf (bits .or .i64 (bits .or .i64 (0:Int) (1:Int)) (2:Int))
 else
 bif (c0==(9:UInt8)) then
 qf (bits .or .i64 (bits .or .i64 (0:Int) (1:Int)) (2:Int))
 else
 bif (decide ((48:UInt8)≤c0)) then
 bif (decide (c0≤(57:UInt8))) then
 qf (bits .or .i64 (bits .or .i64 (0:Int) (1:Int)) (648:Int))
 else
 bif (decide ((65:UInt8)≤c0)) then
 bif (decide (c0≤(90:UInt8))) then
 bif (decide (c0≤(90:UInt8))) then
 qf (bits .or .i64 (bits .or .i64 (0:Int) (1:Int)) (656:Int))
 else
 qf (bits .or .i64 (0:Int) (1:Int))
 else
 bif (decide ((97:UInt8)≤c0)) then
 bif (decide (c0≤(122:UInt8))) then
 qf (bits .or .i64 (bits .or .i64 (0:Int) (1:Int)) (656:Int))
 else
 qf (bits .or .i64 (0:Int) (1:Int))
 else
 qf (bits .or .i64 (0:Int) (1:Int))
 else
 bif (decide ((97:UInt8)≤c0)) then
 bif (decide (c0≤(122:UInt8))) then
 qf (bits .or .i64 (bits .or .i64 (0:Int) (1:Int)) (656:Int))
 else
 qf (bits .or .i64 (0:Int) (1:Int))
 else
 qf (bits .or .i64 (0:Int) (1:Int))
 else
 bif (decide ((65:UInt8)≤c0)) then
 bif (decide (c0≤(90:UInt8))) then
 bif (decide (c0≤(90:UInt8))) then
 qf (bits .or .i64 (bits .or .i64 (0:Int) (1:Int)) (656:Int))
 else
 qf (bits .or .i64 (0:Int) (1:Int))
 else
 bif (decide ((97:UInt8)≤c0)) then
 bif (decide (c0≤(122:UInt8))) then
 qf (bits .or .i64 (bits .or .i64 (0:Int) (1:Int)) (656:Int))
 else
 qf (bits .or .i64 (0:Int) (1:Int))
 else
 qf (bits .or .i64 (0:Int) (1:Int))
 else
 bif (decide ((97:UInt8)≤c0)) then
 bif (decide (c0≤(122:UInt8))) then
 qf (bits .or .i64 (bits .or .i64 (0:Int) (1:Int)) (656:Int))
 else
 qf (bits .or .i64 (0:Int) (1:Int))
 else
 qf (bits .or .i64 (0:Int) (1:Int))
 else
 bif (c0==(32:UInt8)) then
 qf (bits .or .i64 (0:Int) (2:Int))
 else
 bif (c0==(9:UInt8)) then
 qf (bits .or .i64 (0:Int) (2:Int))
 else
 bif (decide ((48:UInt8)≤c0)) then
 bif (decide (c0≤(57:UInt8))) then
 qf (bits .or .i64 (0:Int) (648:Int))
 else
 bif (decide ((65:UInt8)≤c0)) then
 bif (decide (c0≤(90:UInt8))) then
 bif (decide (c0≤(90:UInt8))) then
 qf (bits .or .i64 (0:Int) (656:Int))
 else
 qf (0:Int)
 else
 bif (decide ((97:UInt8)≤c0)) then
 bif (decide (c0≤(122:UInt8))) then
 qf (bits .or .i64 (0:Int) (656:Int))
 else
 qf (0:Int)
 else
 qf (0:Int)
 else
 bif (decide ((97:UInt8)≤c0)) then
 bif (decide (c0≤(122:UInt8))) then
 qf (bits .or .i64 (0:Int) (656:Int))
 else
 qf (0:Int)
 else
 qf (0:Int)
 else
 bif (decide ((65:UInt8)≤c0)) then
 bif (decide (c0≤(90:UInt8))) then
 bif (decide (c0≤(90:UInt8))) then
 qf (bits .or .i64 (0:Int) (656:Int))
 else
 qf (0:Int)
 else
 bif (decide ((97:UInt8)≤c0)) then
 bif (decide (c0≤(122:UInt8))) then
 qf (bits .or .i64 (0:Int) (656:Int))
 else
 qf (0:Int)
 else
 qf (0:Int)
 else
 bif (decide ((97:UInt8)≤c0)) then
 bif (decide (c0≤(122:UInt8))) then
 qf (bits .or .i64 (0:Int) (656:Int))
 else
 qf (0:Int)
 else
 qf (0:Int)
def qrd (s4:Int):Option AV:=some (.dat (.int .i64) s4 none)
def qwr (_n:Nat) (s0:List UInt8) (c1:UInt8):Option AV :=
 qrd (z241 s0 c1)
def qre (s4:Int):Option AV:=some (.dat (.int .i64) s4 none)
def qws (_n:Nat) (s0:List UInt8) (c1:UInt8):Option AV :=
 qre (z229 s0 c1)
def qrf (s4:Bool):Option AV:=some (.dat .bool s4 none)
def qwt (_n:Nat) (s0:List UInt8) (c1:UInt8):Option AV :=
 qrf (decide ((0:Int)≤(z192 s0 c1)))
def qW (s2:Int):Option AV:=some (.dat (.int .i64) s2 none)
def qrg (_n:Nat) (c0:UInt8):Option AV :=
 bif (decide (c0 < (33:UInt8))) then
 qW (z214 c0)
 else
 bif (decide ((126:UInt8) < c0)) then
 qW (z214 c0)
 else
 bif (z215 ([33,42,43,45,47]:List UInt8) c0) then
 bif (z215 ([43,47]:List UInt8) c0) then
 bif (z215 ([40,41,60,62,64,44,59,58,92,34,47,91,93,63,61]:List UInt8) c0) then
 qW (bits .or .i64 (bits .or .i64 (bits .or .i64 (bits .or .i64 (z214 c0) (4:Int)) (128:Int)) (512:Int)) (32:Int))
 else
 bif (!(z215 ([42,39,37]:List UInt8) c0)) then
 qW (bits .or .i64 (bits .or .i64 (bits .or .i64 (bits .or .i64 (bits .or .i64 (z214 c0) (4:Int)) (128:Int)) (512:Int)) (64:Int)) (256:Int))
 else
 qW (bits .or .i64 (bits .or .i64 (bits .or .i64 (bits .or .i64 (z214 c0) (4:Int)) (128:Int)) (512:Int)) (64:Int))
 else
 bif (z215 ([40,41,60,62,64,44,59,58,92,34,47,91,93,63,61]:List UInt8) c0) then
 qW (bits .or .i64 (bits .or .i64 (bits .or .i64 (z214 c0) (4:Int)) (128:Int)) (32:Int))
 else
 bif (!(z215 ([42,39,37]:List UInt8) c0)) then
 qW (bits .or .i64 (bits .or .i64 (bits .or .i64 (bits .or .i64 (z214 c0) (4:Int)) (128:Int)) (64:Int)) (256:Int))
 else
 qW (bits .or .i64 (bits .or .i64 (bits .or .i64 (z214 c0) (4:Int)) (128:Int)) (64:Int))
 else
 bif (z215 ([43,47]:List UInt8) c0) then
 bif (z215 ([40,41,60,62,64,44,59,58,92,34,47,91,93,63,61]:List UInt8) c0) then
 qW (bits .or .i64 (bits .or .i64 (bits .or .i64 (z214 c0) (4:Int)) (512:Int)) (32:Int))
 else
 bif (!(z215 ([42,39,37]:List UInt8) c0)) then
 qW (bits .or .i64 (bits .or .i64 (bits .or .i64 (bits .or .i64 (z214 c0) (4:Int)) (512:Int)) (64:Int)) (256:Int))
 else
 qW (bits .or .i64 (bits .or .i64 (bits .or .i64 (z214 c0) (4:Int)) (512:Int)) (64:Int))
 else
 bif (z215 ([40,41,60,62,64,44,59,58,92,34,47,91,93,63,61]:List UInt8) c0) then
 qW (bits .or .i64 (bits .or .i64 (z214 c0) (4:Int)) (32:Int))
 else
 bif (!(z215 ([42,39,37]:List UInt8) c0)) then
 qW (bits .or .i64 (bits .or .i64 (bits .or .i64 (z214 c0) (4:Int)) (64:Int)) (256:Int))
 else
 qW (bits .or .i64 (bits .or .i64 (z214 c0) (4:Int)) (64:Int))
def qrh (s4:Bool):Option AV:=some (.dat .bool s4 none)
def qwu (_n:Nat) (c0:UInt8) (kinds1:Int):Option AV :=
 qrh ((bits .and .i64 (z180 c0) kinds1) != (0:Int))
def qri (s4:Int):Option AV:=some (.dat (.int .i64) s4 none)
def qcm (k0:Int→Option AV) (next:Int→Int→List UInt8→Int→Int→Option AV) (_n:Nat) (kinds1:Int) (n5:Int) (s8:List UInt8) (s9:Int) (s10:Int):Option AV :=
 bif (decide (s10 < s9)) then
 bif ((decide ((0:Int)≤s10))&&(decide (s10 < (List.length s8:Nat)))) then
 bif (z129 (List.getD s8 (Int.toNat s10) (0:UInt8)) kinds1) then
 next kinds1 (IntKind.wrap .i64 (n5+(1:Int))) s8 s9 (IntKind.wrap .i64 (s10+(1:Int)))
 else
 next kinds1 n5 s8 s9 (IntKind.wrap .i64 (s10+(1:Int)))
 else none
 else
 k0 n5
def qdw (k0:Int→Option AV):Nat→Int→Int→List UInt8→Int→Int→Option AV
 | 0=>fun _ _ _ _ _=>none
 | n+1=>qcm k0 (qdw k0 n) n
def qdx (_n:Nat) (n5:Int):Option AV :=
 qri n5
def qlS (n:Nat) (s0:List UInt8) (kinds1:Int):Option AV :=
 qdw (qdx n) n kinds1 (0:Int) s0 ((List.length s0:Nat):Int) (0:Int)
def qrj (s4:Bool):Option AV:=some (.dat .bool s4 none)
def qyw (_n:Nat) (s0:List UInt8) (kinds1:Int):Option AV :=
 bif ((qmr s0 kinds1)&&true) then
 qrj ((z127 s0 kinds1)==((List.length s0:Nat):Int))
 else none
def qrk (s4:Bool):Option AV:=some (.dat .bool s4 none)
def qyx (_n:Nat) (s0:List UInt8) (kinds1:Int):Option AV :=
 bif (decide ((0:Int) < ((List.length s0:Nat):Int))) then
 bif ((qvZ s0 kinds1)&&true) then
 qrk (z80 s0 kinds1)
 else none
 else
 qrk false
def qA (s2:(List UInt8)×(Int×((List UInt8)×Unit))) (s3:Int):Option AV:=some (.tup [(.dat (.pair (.sl .byte) (.pair (.int .i64) (.pair (.sl .byte) .unit))) s2 none),(.dat (.int .i64) s3 none)])
def qyy (_n:Nat) (s0:List UInt8):Option AV :=
 bif ((qsw s0 ([(63:UInt8)]:List UInt8))&&true) then
 bif (((List.length (z37 s0 ([(63:UInt8)]:List UInt8)):Nat):Int) != (5:Int)) then
 qA (([]:List UInt8),((0:Int),(([]:List UInt8),()))) (3:Int)
 else
 bif ((decide ((0:Int)≤(0:Int)))&&(decide ((0:Int) < (List.length (z37 s0 ([(63:UInt8)]:List UInt8)):Nat)))) then
 bif ((List.getD (z37 s0 ([(63:UInt8)]:List UInt8)) (Int.toNat (0:Int)) ([]:List UInt8)) != ([61]:List UInt8)) then
 qA (([]:List UInt8),((0:Int),(([]:List UInt8),()))) (3:Int)
 else
 bif ((decide ((0:Int)≤(4:Int)))&&(decide ((4:Int) < (List.length (z37 s0 ([(63:UInt8)]:List UInt8)):Nat)))) then
 bif ((List.getD (z37 s0 ([(63:UInt8)]:List UInt8)) (Int.toNat (4:Int)) ([]:List UInt8)) != ([61]:List UInt8)) then
 qA (([]:List UInt8),((0:Int),(([]:List UInt8),()))) (3:Int)
 else
 bif ((decide ((0:Int)≤(1:Int)))&&(decide ((1:Int) < (List.length (z37 s0 ([(63:UInt8)]:List UInt8)):Nat)))) then
 bif ((decide ((0:Int)≤(2:Int)))&&(decide ((2:Int) < (List.length (z37 s0 ([(63:UInt8)]:List UInt8)):Nat)))) then
 bif ((decide ((0:Int)≤(3:Int)))&&(decide ((3:Int) < (List.length (z37 s0 ([(63:UInt8)]:List UInt8)):Nat)))) then
 both (
 bif ((qcU (List.getD (z37 s0 ([(63:UInt8)]:List UInt8)) (Int.toNat (1:Int)) ([]:List UInt8)))&&true) then
 both (
 bif ((qnD (List.getD (z37 s0 ([(63:UInt8)]:List UInt8)) (Int.toNat (2:Int)) ([]:List UInt8)))&&true) then
 both (
 bif ((qcU (List.getD (z37 s0 ([(63:UInt8)]:List UInt8)) (Int.toNat (3:Int)) ([]:List UInt8)))&&true) then
 both (
 bif (((z38 (List.getD (z37 s0 ([(63:UInt8)]:List UInt8)) (Int.toNat (1:Int)) ([]:List UInt8))),((z39 (List.getD (z37 s0 ([(63:UInt8)]:List UInt8)) (Int.toNat (2:Int)) ([]:List UInt8))),((z38 (List.getD (z37 s0 ([(63:UInt8)]:List UInt8)) (Int.toNat (3:Int)) ([]:List UInt8))),()))).2.1==(0:Int)) then
 qA (([]:List UInt8),((0:Int),(([]:List UInt8),()))) (3:Int)
 else
 bif ((qdJ ((z38 (List.getD (z37 s0 ([(63:UInt8)]:List UInt8)) (Int.toNat (1:Int)) ([]:List UInt8))),((z39 (List.getD (z37 s0 ([(63:UInt8)]:List UInt8)) (Int.toNat (2:Int)) ([]:List UInt8))),((z38 (List.getD (z37 s0 ([(63:UInt8)]:List UInt8)) (Int.toNat (3:Int)) ([]:List UInt8))),()))).1 (64:Int))&&true) then
 bif (!(z40 ((z38 (List.getD (z37 s0 ([(63:UInt8)]:List UInt8)) (Int.toNat (1:Int)) ([]:List UInt8))),((z39 (List.getD (z37 s0 ([(63:UInt8)]:List UInt8)) (Int.toNat (2:Int)) ([]:List UInt8))),((z38 (List.getD (z37 s0 ([(63:UInt8)]:List UInt8)) (Int.toNat (3:Int)) ([]:List UInt8))),()))).1 (64:Int))) then
 qA (([]:List UInt8),((0:Int),(([]:List UInt8),()))) (3:Int)
 else
 bif ((qdJ ((z38 (List.getD (z37 s0 ([(63:UInt8)]:List UInt8)) (Int.toNat (1:Int)) ([]:List UInt8))),((z39 (List.getD (z37 s0 ([(63:UInt8)]:List UInt8)) (Int.toNat (2:Int)) ([]:List UInt8))),((z38 (List.getD (z37 s0 ([(63:UInt8)]:List UInt8)) (Int.toNat (3:Int)) ([]:List UInt8))),()))).2.2.1 (4:Int))&&true) then
 bif (!(z40 ((z38 (List.getD (z37 s0 ([(63:UInt8)]:List UInt8)) (Int.toNat (1:Int)) ([]:List UInt8))),((z39 (List.getD (z37 s0 ([(63:UInt8)]:List UInt8)) (Int.toNat (2:Int)) ([]:List UInt8))),((z38 (List.getD (z37 s0 ([(63:UInt8)]:List UInt8)) (Int.toNat (3:Int)) ([]:List UInt8))),()))).2.2.1 (4:Int))) then
 qA (([]:List UInt8),((0:Int),(([]:List UInt8),()))) (3:Int)
 else
 bif (decide ((75:Int) < ((List.length s0:Nat):Int))) then
 qA (([]:List UInt8),((0:Int),(([]:List UInt8),()))) (12:Int)
 else
 qA ((z38 (List.getD (z37 s0 ([(63:UInt8)]:List UInt8)) (Int.toNat (1:Int)) ([]:List UInt8))),((z39 (List.getD (z37 s0 ([(63:UInt8)]:List UInt8)) (Int.toNat (2:Int)) ([]:List UInt8))),((z38 (List.getD (z37 s0 ([(63:UInt8)]:List UInt8)) (Int.toNat (3:Int)) ([]:List UInt8))),()))) (0:Int)
 else none
 else none) (
 bif (((z38 (List.getD (z37 s0 ([(63:UInt8)]:List UInt8)) (Int.toNat (1:Int)) ([]:List UInt8))),((z39 (List.getD (z37 s0 ([(63:UInt8)]:List UInt8)) (Int.toNat (2:Int)) ([]:List UInt8))),((z38 (List.getD (z37 s0 ([(63:UInt8)]:List UInt8)) (Int.toNat (3:Int)) ([]:List UInt8))),()))).2.1==(0:Int)) then
 qA (([]:List UInt8),((0:Int),(([]:List UInt8),()))) (3:Int)
 else
 bif ((qdJ ((z38 (List.getD (z37 s0 ([(63:UInt8)]:List UInt8)) (Int.toNat (1:Int)) ([]:List UInt8))),((z39 (List.getD (z37 s0 ([(63:UInt8)]:List UInt8)) (Int.toNat (2:Int)) ([]:List UInt8))),((z38 (List.getD (z37 s0 ([(63:UInt8)]:List UInt8)) (Int.toNat (3:Int)) ([]:List UInt8))),()))).1 (64:Int))&&true) then
 bif (!(z40 ((z38 (List.getD (z37 s0 ([(63:UInt8)]:List UInt8)) (Int.toNat (1:Int)) ([]:List UInt8))),((z39 (List.getD (z37 s0 ([(63:UInt8)]:List UInt8)) (Int.toNat (2:Int)) ([]:List UInt8))),((z38 (List.getD (z37 s0 ([(63:UInt8)]:List UInt8)) (Int.toNat (3:Int)) ([]:List UInt8))),()))).1 (64:Int))) then
 qA (([]:List UInt8),((0:Int),(([]:List UInt8),()))) (3:Int)
 else
 bif ((qdJ ((z38 (List.getD (z37 s0 ([(63:UInt8)]:List UInt8)) (Int.toNat (1:Int)) ([]:List UInt8))),((z39 (List.getD (z37 s0 ([(63:UInt8)]:List UInt8)) (Int.toNat (2:Int)) ([]:List UInt8))),((z38 (List.getD (z37 s0 ([(63:UInt8)]:List UInt8)) (Int.toNat (3:Int)) ([]:List UInt8))),()))).2.2.1 (4:Int))&&true) then
 bif (!(z40 ((z38 (List.getD (z37 s0 ([(63:UInt8)]:List UInt8)) (Int.toNat (1:Int)) ([]:List UInt8))),((z39 (List.getD (z37 s0 ([(63:UInt8)]:List UInt8)) (Int.toNat (2:Int)) ([]:List UInt8))),((z38 (List.getD (z37 s0 ([(63:UInt8)]:List UInt8)) (Int.toNat (3:Int)) ([]:List UInt8))),()))).2.2.1 (4:Int))) then
 qA (([]:List UInt8),((0:Int),(([]:List UInt8),()))) (3:Int)
 else
 bif (decide ((75:Int) < ((List.length s0:Nat):Int))) then
 qA (([]:List UInt8),((0:Int),(([]:List UInt8),()))) (12:Int)
 else
 qA ((z38 (List.getD (z37 s0 ([(63:UInt8)]:List UInt8)) (Int.toNat (1:Int)) ([]:List UInt8))),((z39 (List.getD (z37 s0 ([(63:UInt8)]:List UInt8)) (Int.toNat (2:Int)) ([]:List UInt8))),((z38 (List.getD (z37 s0 ([(63:UInt8)]:List UInt8)) (Int.toNat (3:Int)) ([]:List UInt8))),()))) (0:Int)
 else none
 else none)
 else none) (
 bif ((qcU (List.getD (z37 s0 ([(63:UInt8)]:List UInt8)) (Int.toNat (3:Int)) ([]:List UInt8)))&&true) then
 bif (((z38 (List.getD (z37 s0 ([(63:UInt8)]:List UInt8)) (Int.toNat (1:Int)) ([]:List UInt8))),((z39 (List.getD (z37 s0 ([(63:UInt8)]:List UInt8)) (Int.toNat (2:Int)) ([]:List UInt8))),((z38 (List.getD (z37 s0 ([(63:UInt8)]:List UInt8)) (Int.toNat (3:Int)) ([]:List UInt8))),()))).2.1==(0:Int)) then
 qA (([]:List UInt8),((0:Int),(([]:List UInt8),()))) (3:Int)
 else
 bif ((qdJ ((z38 (List.getD (z37 s0 ([(63:UInt8)]:List UInt8)) (Int.toNat (1:Int)) ([]:List UInt8))),((z39 (List.getD (z37 s0 ([(63:UInt8)]:List UInt8)) (Int.toNat (2:Int)) ([]:List UInt8))),((z38 (List.getD (z37 s0 ([(63:UInt8)]:List UInt8)) (Int.toNat (3:Int)) ([]:List UInt8))),()))).1 (64:Int))&&true) then
 bif (!(z40 ((z38 (List.getD (z37 s0 ([(63:UInt8)]:List UInt8)) (Int.toNat (1:Int)) ([]:List UInt8))),((z39 (List.getD (z37 s0 ([(63:UInt8)]:List UInt8)) (Int.toNat (2:Int)) ([]:List UInt8))),((z38 (List.getD (z37 s0 ([(63:UInt8)]:List UInt8)) (Int.toNat (3:Int)) ([]:List UInt8))),()))).1 (64:Int))) then
 qA (([]:List UInt8),((0:Int),(([]:List UInt8),()))) (3:Int)
 else
 bif ((qdJ ((z38 (List.getD (z37 s0 ([(63:UInt8)]:List UInt8)) (Int.toNat (1:Int)) ([]:List UInt8))),((z39 (List.getD (z37 s0 ([(63:UInt8)]:List UInt8)) (Int.toNat (2:Int)) ([]:List UInt8))),((z38 (List.getD (z37 s0 ([(63:UInt8)]:List UInt8)) (Int.toNat (3:Int)) ([]:List UInt8))),()))).2.2.1 (4:Int))&&true) then
 bif (!(z40 ((z38 (List.getD (z37 s0 ([(63:UInt8)]:List UInt8)) (Int.toNat (1:Int)) ([]:List UInt8))),((z39 (List.getD (z37 s0 ([(63:UInt8)]:List UInt8)) (Int.toNat (2:Int)) ([]:List UInt8))),((z38 (List.getD (z37 s0 ([(63:UInt8)]:List UInt8)) (Int.toNat (3:Int)) ([]:List UInt8))),()))).2.2.1 (4:Int))) then
 qA (([]:List UInt8),((0:Int),(([]:List UInt8),()))) (3:Int)
 else
 bif (decide ((75:Int) < ((List.length s0:Nat):Int))) then
 qA (([]:List UInt8),((0:Int),(([]:List UInt8),()))) (12:Int)
 else
 qA ((z38 (List.getD (z37 s0 ([(63:UInt8)]:List UInt8)) (Int.toNat (1:Int)) ([]:List UInt8))),((z39 (List.getD (z37 s0 ([(63:UInt8)]:List UInt8)) (Int.toNat (2:Int)) ([]:List UInt8))),((z38 (List.getD (z37 s0 ([(63:UInt8)]:List UInt8)) (Int.toNat (3:Int)) ([]:List UInt8))),()))) (0:Int)
 else none
 else none
 else none)
 else none) (
 bif ((qnD (List.getD (z37 s0 ([(63:UInt8)]:List UInt8)) (Int.toNat (2:Int)) ([]:List UInt8)))&&true) then
 bif ((qcU (List.getD (z37 s0 ([(63:UInt8)]:List UInt8)) (Int.toNat (3:Int)) ([]:List UInt8)))&&true) then
 bif (((z38 (List.getD (z37 s0 ([(63:UInt8)]:List UInt8)) (Int.toNat (1:Int)) ([]:List UInt8))),((z39 (List.getD (z37 s0 ([(63:UInt8)]:List UInt8)) (Int.toNat (2:Int)) ([]:List UInt8))),((z38 (List.getD (z37 s0 ([(63:UInt8)]:List UInt8)) (Int.toNat (3:Int)) ([]:List UInt8))),()))).2.1==(0:Int)) then
 qA (([]:List UInt8),((0:Int),(([]:List UInt8),()))) (3:Int)
 else
 bif ((qdJ ((z38 (List.getD (z37 s0 ([(63:UInt8)]:List UInt8)) (Int.toNat (1:Int)) ([]:List UInt8))),((z39 (List.getD (z37 s0 ([(63:UInt8)]:List UInt8)) (Int.toNat (2:Int)) ([]:List UInt8))),((z38 (List.getD (z37 s0 ([(63:UInt8)]:List UInt8)) (Int.toNat (3:Int)) ([]:List UInt8))),()))).1 (64:Int))&&true) then
 bif (!(z40 ((z38 (List.getD (z37 s0 ([(63:UInt8)]:List UInt8)) (Int.toNat (1:Int)) ([]:List UInt8))),((z39 (List.getD (z37 s0 ([(63:UInt8)]:List UInt8)) (Int.toNat (2:Int)) ([]:List UInt8))),((z38 (List.getD (z37 s0 ([(63:UInt8)]:List UInt8)) (Int.toNat (3:Int)) ([]:List UInt8))),()))).1 (64:Int))) then
 qA (([]:List UInt8),((0:Int),(([]:List UInt8),()))) (3:Int)
 else
 bif ((qdJ ((z38 (List.getD (z37 s0 ([(63:UInt8)]:List UInt8)) (Int.toNat (1:Int)) ([]:List UInt8))),((z39 (List.getD (z37 s0 ([(63:UInt8)]:List UInt8)) (Int.toNat (2:Int)) ([]:List UInt8))),((z38 (List.getD (z37 s0 ([(63:UInt8)]:List UInt8)) (Int.toNat (3:Int)) ([]:List UInt8))),()))).2.2.1 (4:Int))&&true) then
 bif (!(z40 ((z38 (List.getD (z37 s0 ([(63:UInt8)]:List UInt8)) (Int.toNat (1:Int)) ([]:List UInt8))),((z39 (List.getD (z37 s0 ([(63:UInt8)]:List UInt8)) (Int.toNat (2:Int)) ([]:List UInt8))),((z38 (List.getD (z37 s0 ([(63:UInt8)]:List UInt8)) (Int.toNat (3:Int)) ([]:List UInt8))),()))).2.2.1 (4:Int))) then
 qA (([]:List UInt8),((0:Int),(([]:List UInt8),()))) (3:Int)
 else
 bif (decide ((75:Int) < ((List.length s0:Nat):Int))) then
 qA (([]:List UInt8),((0:Int),(([]:List UInt8),()))) (12:Int)
 else
 qA ((z38 (List.getD (z37 s0 ([(63:UInt8)]:List UInt8)) (Int.toNat (1:Int)) ([]:List UInt8))),((z39 (List.getD (z37 s0 ([(63:UInt8)]:List UInt8)) (Int.toNat (2:Int)) ([]:List UInt8))),((z38 (List.getD (z37 s0 ([(63:UInt8)]:List UInt8)) (Int.toNat (3:Int)) ([]:List UInt8))),()))) (0:Int)
 else none
 else none
 else none
 else none)
 else none) (
 bif ((qcU (List.getD (z37 s0 ([(63:UInt8)]:List UInt8)) (Int.toNat (1:Int)) ([]:List UInt8)))&&true) then
 bif ((qnD (List.getD (z37 s0 ([(63:UInt8)]:List UInt8)) (Int.toNat (2:Int)) ([]:List UInt8)))&&true) then
 bif ((qcU (List.getD (z37 s0 ([(63:UInt8)]:List UInt8)) (Int.toNat (3:Int)) ([]:List UInt8)))&&true) then
 bif (((z38 (List.getD (z37 s0 ([(63:UInt8)]:List UInt8)) (Int.toNat (1:Int)) ([]:List UInt8))),((z39 (List.getD (z37 s0 ([(63:UInt8)]:List UInt8)) (Int.toNat (2:Int)) ([]:List UInt8))),((z38 (List.getD (z37 s0 ([(63:UInt8)]:List UInt8)) (Int.toNat (3:Int)) ([]:List UInt8))),()))).2.1==(0:Int)) then
 qA (([]:List UInt8),((0:Int),(([]:List UInt8),()))) (3:Int)
 else
 bif ((qdJ ((z38 (List.getD (z37 s0 ([(63:UInt8)]:List UInt8)) (Int.toNat (1:Int)) ([]:List UInt8))),((z39 (List.getD (z37 s0 ([(63:UInt8)]:List UInt8)) (Int.toNat (2:Int)) ([]:List UInt8))),((z38 (List.getD (z37 s0 ([(63:UInt8)]:List UInt8)) (Int.toNat (3:Int)) ([]:List UInt8))),()))).1 (64:Int))&&true) then
 bif (!(z40 ((z38 (List.getD (z37 s0 ([(63:UInt8)]:List UInt8)) (Int.toNat (1:Int)) ([]:List UInt8))),((z39 (List.getD (z37 s0 ([(63:UInt8)]:List UInt8)) (Int.toNat (2:Int)) ([]:List UInt8))),((z38 (List.getD (z37 s0 ([(63:UInt8)]:List UInt8)) (Int.toNat (3:Int)) ([]:List UInt8))),()))).1 (64:Int))) then
 qA (([]:List UInt8),((0:Int),(([]:List UInt8),()))) (3:Int)
 else
 bif ((qdJ ((z38 (List.getD (z37 s0 ([(63:UInt8)]:List UInt8)) (Int.toNat (1:Int)) ([]:List UInt8))),((z39 (List.getD (z37 s0 ([(63:UInt8)]:List UInt8)) (Int.toNat (2:Int)) ([]:List UInt8))),((z38 (List.getD (z37 s0 ([(63:UInt8)]:List UInt8)) (Int.toNat (3:Int)) ([]:List UInt8))),()))).2.2.1 (4:Int))&&true) then
 bif (!(z40 ((z38 (List.getD (z37 s0 ([(63:UInt8)]:List UInt8)) (Int.toNat (1:Int)) ([]:List UInt8))),((z39 (List.getD (z37 s0 ([(63:UInt8)]:List UInt8)) (Int.toNat (2:Int)) ([]:List UInt8))),((z38 (List.getD (z37 s0 ([(63:UInt8)]:List UInt8)) (Int.toNat (3:Int)) ([]:List UInt8))),()))).2.2.1 (4:Int))) then
 qA (([]:List UInt8),((0:Int),(([]:List UInt8),()))) (3:Int)
 else
 bif (decide ((75:Int) < ((List.length s0:Nat):Int))) then
 qA (([]:List UInt8),((0:Int),(([]:List UInt8),()))) (12:Int)
 else
 qA ((z38 (List.getD (z37 s0 ([(63:UInt8)]:List UInt8)) (Int.toNat (1:Int)) ([]:List UInt8))),((z39 (List.getD (z37 s0 ([(63:UInt8)]:List UInt8)) (Int.toNat (2:Int)) ([]:List UInt8))),((z38 (List.getD (z37 s0 ([(63:UInt8)]:List UInt8)) (Int.toNat (3:Int)) ([]:List UInt8))),()))) (0:Int)
 else none
 else none
 else none
 else none
 else none)
 else none
 else none
 else none
 else none
 else none
 else none
def qwv (s2:Bool):Option AV:=some (.dat .bool s2 none)
def qyz (_n:Nat) (s0:List UInt8):Option AV :=
 bif ((qnE s0)&&true) then
 qwv (((z11 s0).2)==(0:Int))
 else none
def qrl (s2:Bool):Option AV:=some (.dat .bool s2 none)
def qyA (_n:Nat) (n0:Int):Option AV :=
 bif (decide ((1:Int)≤n0)) then
 qrl (decide (n0≤(5:Int)))
 else
 qrl false
def qlT (s2:List UInt8):Option AV:=some (.dat .str s2 none)
def qyB (_n:Nat) (n0:Int):Option AV :=
 bif (n0==(1:Int)) then
 qlT ([66]:List UInt8)
 else
 bif (n0==(2:Int)) then
 qlT ([81]:List UInt8)
 else
 qlT ([]:List UInt8)
def qlU (s2:Int):Option AV:=some (.dat (.int .i64) s2 none)
def qyC (_n:Nat) (c0:UInt8):Option AV :=
 bif (c0==(32:UInt8)) then
 qlU (1:Int)
 else
 bif (z129 c0 (128:Int)) then
 qlU (1:Int)
 else
 qlU (3:Int)
def qww (s2:Int):Option AV:=some (.dat (.int .i64) s2 none)
def qef (k0:Int→Option AV) (next:Int→List UInt8→Int→Int→Option AV) (_n:Nat) (n3:Int) (s6:List UInt8) (s7:Int) (s8:Int):Option AV :=
 bif (decide (s8 < s7)) then
 bif ((decide ((0:Int)≤s8))&&(decide (s8 < (List.length s6:Nat)))) then
 next (IntKind.wrap .i64 (n3+(z84 (List.getD s6 (Int.toNat s8) (0:UInt8))))) s6 s7 (IntKind.wrap .i64 (s8+(1:Int)))
 else none
 else
 k0 n3
def qkn (k0:Int→Option AV):Nat→Int→List UInt8→Int→Int→Option AV
 | 0=>fun _ _ _ _=>none
 | n+1=>qef k0 (qkn k0 n) n
def qfT (_n:Nat) (n3:Int):Option AV :=
 qww n3
def qvb (n:Nat) (s0:List UInt8):Option AV :=
 qkn (qfT n) n (0:Int) s0 ((List.length s0:Nat):Int) (0:Int)
def qrm (s2:UInt8):Option AV:=some (.dat .byte s2 none)
def qrn (_n:Nat) (n0:Int):Option AV :=
 bif ((decide ((0:Int)≤(bits .and .i64 n0 (15:Int))))&&(decide ((bits .and .i64 n0 (15:Int)) < (List.length ([48,49,50,51,52,53,54,55,56,57,65,66,67,68,69,70]:List UInt8):Nat)))) then
 qrm (List.getD ([48,49,50,51,52,53,54,55,56,57,65,66,67,68,69,70]:List UInt8) (Int.toNat (bits .and .i64 n0 (15:Int))) (0:UInt8))
 else none
def qro (s2:List UInt8):Option AV:=some (.dat (.sl .byte) s2 (some (2,5)))
def qrp (_n:Nat) (c0:UInt8):Option AV :=
 bif ((qcz (IntKind.wrap .i64 ((UInt8.toNat (UInt8.ofNat (UInt8.toNat c0 / 2 ^ (min (Int.toNat (4:Int)) 8))):Nat):Int)))&&true) then
 bif ((qcz (IntKind.wrap .i64 ((UInt8.toNat c0:Nat):Int)))&&true) then
 qro ([(z181 (IntKind.wrap .i64 ((UInt8.toNat (UInt8.ofNat (UInt8.toNat c0 / 2 ^ (min (Int.toNat (4:Int)) 8))):Nat):Int))),(z181 (IntKind.wrap .i64 ((UInt8.toNat c0:Nat):Int)))]:List UInt8)
 else none
 else none
def qwx (s6:List UInt8):Option AV:=some (.dat (.sl .byte) s6 (some (6,5)))
def qyD (_n:Nat) (b0:List UInt8) (sign1:UInt8) (c2:UInt8):Option AV :=
 bif ((qcU b0)&&true) then
 bif (decide (List.length (z38 b0)+List.length ([sign1]:List UInt8)≤room)) then
 bif (decide (List.length ((z38 b0)++([sign1]:List UInt8))+List.length (z130 c2)≤room)) then
 qwx (((z38 b0)++([sign1]:List UInt8))++(z130 c2))
 else none
 else none
 else none
def qja (s2:List UInt8):Option AV:=some (.dat (.sl .byte) s2 (some (2,5)))
def qeg (k0:List UInt8→Option AV) (next:List UInt8→List UInt8→Int→Int→Option AV) (_n:Nat) (out3:List UInt8) (s9:List UInt8) (s10:Int) (s11:Int):Option AV :=
 bif (decide (s11 < s10)) then
 bif ((decide ((0:Int)≤s11))&&(decide (s11 < (List.length s9:Nat)))) then
 bif ((List.getD s9 (Int.toNat s11) (0:UInt8))==(32:UInt8)) then
 bif (decide (List.length out3+List.length ([(95:UInt8)]:List UInt8)≤room)) then
 next (out3++([(95:UInt8)]:List UInt8)) s9 s10 (IntKind.wrap .i64 (s11+(1:Int)))
 else none
 else
 bif ((z84 (List.getD s9 (Int.toNat s11) (0:UInt8)))==(1:Int)) then
 bif (decide (List.length out3+List.length ([(List.getD s9 (Int.toNat s11) (0:UInt8))]:List UInt8)≤room)) then
 next (out3++([(List.getD s9 (Int.toNat s11) (0:UInt8))]:List UInt8)) s9 s10 (IntKind.wrap .i64 (s11+(1:Int)))
 else none
 else
 bif ((qur out3 (61:UInt8) (List.getD s9 (Int.toNat s11) (0:UInt8)))&&true) then
 next (z85 out3 (61:UInt8) (List.getD s9 (Int.toNat s11) (0:UInt8))) s9 s10 (IntKind.wrap .i64 (s11+(1:Int)))
 else none
 else none
 else
 k0 out3
def qko (k0:List UInt8→Option AV):Nat→List UInt8→List UInt8→Int→Int→Option AV
 | 0=>fun _ _ _ _=>none
 | n+1=>qeg k0 (qko k0 n) n
def qfU (_n:Nat) (out3:List UInt8):Option AV :=
 qja out3
def qvc (n:Nat) (s0:List UInt8):Option AV :=
 bif ((qnk s0)&&true) then
 bif (((decide ((0:Int)≤(0:Int)))&&(decide ((0:Int)≤(z83 s0))))&&(decide ((z83 s0)≤(room:Int)))) then
 qko (qfU n) n (List.replicate (Int.toNat (0:Int)) (0:UInt8)) s0 ((List.length s0:Nat):Int) (0:Int)
 else none
 else none
def qrq (s2:UInt8):Option AV:=some (.dat .byte s2 none)
def qrr (_n:Nat) (n0:Int):Option AV :=
 bif ((decide ((0:Int)≤(bits .and .i64 n0 (63:Int))))&&(decide ((bits .and .i64 n0 (63:Int)) < (List.length ([65,66,67,68,69,70,71,72,73,74,75,76,77,78,79,80,81,82,83,84,85,86,87,88,89,90,97,98,99,100,101,102,103,104,105,106,107,108,109,110,111,112,113,114,115,116,117,118,119,120,121,122,48,49,50,51,52,53,54,55,56,57,43,47]:List UInt8):Nat)))) then
 qrq (List.getD ([65,66,67,68,69,70,71,72,73,74,75,76,77,78,79,80,81,82,83,84,85,86,87,88,89,90,97,98,99,100,101,102,103,104,105,106,107,108,109,110,111,112,113,114,115,116,117,118,119,120,121,122,48,49,50,51,52,53,54,55,56,57,43,47]:List UInt8) (Int.toNat (bits .and .i64 n0 (63:Int))) (0:UInt8))
 else none
def qjb (s2:List UInt8):Option AV:=some (.dat (.sl .byte) s2 (some (2,5)))
def qrs (k2:List UInt8→Int→Int→List UInt8→Int→Int→Option AV) (next:List UInt8→Int→Int→List UInt8→Int→Int→Option AV) (_n:Nat) (out3:List UInt8) (held4:Int) (many5:Int) (s8:List UInt8) (s9:Int) (s10:Int):Option AV :=
 bif (decide ((6:Int)≤many5)) then
 bif (decide ((0:Int)≤(IntKind.wrap .i64 (many5 - (6:Int))))) then
 bif (decide (List.length out3+List.length ([(z132 (Int.fdiv held4 (2 ^ (min (Int.toNat (IntKind.wrap .i64 (many5 - (6:Int)))) (IntKind.bits .i64)))))]:List UInt8)≤room)) then
 next (out3++([(z132 (Int.fdiv held4 (2 ^ (min (Int.toNat (IntKind.wrap .i64 (many5 - (6:Int)))) (IntKind.bits .i64)))))]:List UInt8)) held4 (IntKind.wrap .i64 (many5 - (6:Int))) s8 s9 s10
 else none
 else none
 else
 k2 out3 held4 many5 s8 s9 s10
def qeh (k2:List UInt8→Int→Int→List UInt8→Int→Int→Option AV):Nat→List UInt8→Int→Int→List UInt8→Int→Int→Option AV
 | 0=>fun _ _ _ _ _ _=>none
 | n+1=>qrs k2 (qeh k2 n) n
def qbY (_k0:List UInt8→Int→Int→Option AV) (next:List UInt8→Int→Int→List UInt8→Int→Int→Option AV) (_n:Nat) (out3:List UInt8) (held4:Int) (many5:Int) (s8:List UInt8) (s9:Int) (s10:Int):Option AV :=
 bif (decide ((0:Int)≤many5)) then
 next out3 (bits .and .i64 held4 (IntKind.wrap .i64 ((IntKind.wrap .i64 ((1:Int)*2 ^ (min (Int.toNat many5) (IntKind.bits .i64)))) - (1:Int)))) many5 s8 s9 (IntKind.wrap .i64 (s10+(1:Int)))
 else none
def qcN (k0:List UInt8→Int→Int→Option AV) (next:List UInt8→Int→Int→List UInt8→Int→Int→Option AV) (n:Nat) (out3:List UInt8) (held4:Int) (many5:Int) (s8:List UInt8) (s9:Int) (s10:Int):Option AV :=
 bif (decide (s10 < s9)) then
 bif ((decide ((0:Int)≤s10))&&(decide (s10 < (List.length s8:Nat)))) then
 qeh (qbY k0 next n) n out3 (bits .or .i64 (IntKind.wrap .i64 (held4*2 ^ (min (Int.toNat (8:Int)) (IntKind.bits .i64)))) (IntKind.wrap .i64 ((UInt8.toNat (List.getD s8 (Int.toNat s10) (0:UInt8)):Nat):Int))) (IntKind.wrap .i64 (many5+(8:Int))) s8 s9 s10
 else none
 else
 k0 out3 held4 many5
def qkp (k0:List UInt8→Int→Int→Option AV):Nat→List UInt8→Int→Int→List UInt8→Int→Int→Option AV
 | 0=>fun _ _ _ _ _ _=>none
 | n+1=>qcN k0 (qkp k0 n) n
def qcO (_n:Nat) (out3:List UInt8) (held4:Int) (many5:Int):Option AV :=
 bif (decide ((0:Int) < many5)) then
 bif (decide ((0:Int)≤(IntKind.wrap .i64 ((6:Int) - many5)))) then
 bif (decide (List.length out3+List.length ([(z132 (IntKind.wrap .i64 (held4*2 ^ (min (Int.toNat (IntKind.wrap .i64 ((6:Int) - many5))) (IntKind.bits .i64)))))]:List UInt8)≤room)) then
 qjb (out3++([(z132 (IntKind.wrap .i64 (held4*2 ^ (min (Int.toNat (IntKind.wrap .i64 ((6:Int) - many5))) (IntKind.bits .i64)))))]:List UInt8))
 else none
 else none
 else
 qjb out3
def qvd (n:Nat) (s0:List UInt8):Option AV :=
 qkp (qcO n) n ([]:List UInt8) (0:Int) (0:Int) s0 ((List.length s0:Nat):Int) (0:Int)
def qcP (s2:List (List UInt8)):Option AV:=some (.dat (.sl .str) s2 (some (2,9)))
def qrt (_n:Nat) (charset0:Int):Option AV :=
 bif (charset0==(1:Int)) then
 qcP ([([117,115,45,97,115,99,105,105]:List UInt8),([97,115,99,105,105]:List UInt8),([97,110,115,105,95,120,51,46,52,45,49,57,54,56]:List UInt8),([105,115,111,54,52,54,45,117,115]:List UInt8)]:List (List UInt8))
 else
 bif (charset0==(2:Int)) then
 qcP ([([105,115,111,45,56,56,53,57,45,49]:List UInt8),([105,115,111,95,56,56,53,57,45,49]:List UInt8),([108,97,116,105,110,49]:List UInt8),([108,49]:List UInt8)]:List (List UInt8))
 else
 bif (charset0==(3:Int)) then
 qcP ([([105,115,111,45,56,56,53,57,45,49,53]:List UInt8),([105,115,111,95,56,56,53,57,45,49,53]:List UInt8),([108,97,116,105,110,45,57]:List UInt8)]:List (List UInt8))
 else
 bif (charset0==(4:Int)) then
 qcP ([([119,105,110,100,111,119,115,45,49,50,53,50]:List UInt8),([99,112,49,50,53,50]:List UInt8)]:List (List UInt8))
 else
 bif (charset0==(5:Int)) then
 qcP ([([117,116,102,45,56]:List UInt8),([117,116,102,56]:List UInt8)]:List (List UInt8))
 else
 qcP ([]:List (List UInt8))
def qru (s2:List UInt8):Option AV:=some (.dat .str s2 none)
def qyE (_n:Nat) (charset0:Int):Option AV :=
 bif (((List.length (z133 charset0):Nat):Int)==(0:Int)) then
 qru ([]:List UInt8)
 else
 bif ((decide ((0:Int)≤(0:Int)))&&(decide ((0:Int) < (List.length (z133 charset0):Nat)))) then
 qru (List.getD (z133 charset0) (Int.toNat (0:Int)) ([]:List UInt8))
 else none
def qwy (s4:List UInt8):Option AV:=some (.dat .str s4 none)
def qyF (_n:Nat) (charset0:Int) (code1:Int):Option AV :=
 bif (decide (List.length ([61,63]:List UInt8)+List.length (z89 charset0)≤9223372036854775807)) then
 bif (decide (List.length (([61,63]:List UInt8)++(z89 charset0))+List.length ([63]:List UInt8)≤9223372036854775807)) then
 bif (decide (List.length ((([61,63]:List UInt8)++(z89 charset0))++([63]:List UInt8))+List.length (z45 code1)≤9223372036854775807)) then
 bif (decide (List.length (((([61,63]:List UInt8)++(z89 charset0))++([63]:List UInt8))++(z45 code1))+List.length ([63]:List UInt8)≤9223372036854775807)) then
 qwy ((((([61,63]:List UInt8)++(z89 charset0))++([63]:List UInt8))++(z45 code1))++([63]:List UInt8))
 else none
 else none
 else none
 else none
def qeB (s6:List UInt8) (s7:Int):Option AV:=some (.tup [(.dat (.sl .byte) s6 none),(.dat (.int .i64) s7 none)])
def qyG (_n:Nat) (charset0:Int) (code1:Int) (s2:List UInt8):Option AV :=
 bif (!(z44 charset0)) then
 qeB ([]:List UInt8) (10:Int)
 else
 bif ((z45 code1)==([]:List UInt8)) then
 qeB ([]:List UInt8) (3:Int)
 else
 bif (((List.length s2:Nat):Int)==(0:Int)) then
 qeB ([]:List UInt8) (3:Int)
 else
 bif ((quA s2)&&true) then
 bif (code1==(1:Int)) then
 bif ((qxS s2)&&true) then
 bif (decide (List.length (z48 charset0 code1)≤room)) then
 bif (decide (List.length (z48 charset0 code1)+List.length (z47 s2)≤room)) then
 bif (decide (List.length ((z48 charset0 code1)++(z47 s2))+List.length ([63,61]:List UInt8)≤room)) then
 bif (decide ((75:Int) < ((List.length (((z48 charset0 code1)++(z47 s2))++([63,61]:List UInt8)):Nat):Int))) then
 qeB ([]:List UInt8) (12:Int)
 else
 qeB (((z48 charset0 code1)++(z47 s2))++([63,61]:List UInt8)) (0:Int)
 else none
 else none
 else none
 else none
 else
 bif (decide (List.length (z48 charset0 code1)≤room)) then
 bif (decide (List.length (z48 charset0 code1)+List.length (z46 s2)≤room)) then
 bif (decide (List.length ((z48 charset0 code1)++(z46 s2))+List.length ([63,61]:List UInt8)≤room)) then
 bif (decide ((75:Int) < ((List.length (((z48 charset0 code1)++(z46 s2))++([63,61]:List UInt8)):Nat):Int))) then
 qeB ([]:List UInt8) (12:Int)
 else
 qeB (((z48 charset0 code1)++(z46 s2))++([63,61]:List UInt8)) (0:Int)
 else none
 else none
 else none
 else none
def qjc (s2:Int):Option AV:=some (.dat (.int .i64) s2 none)
def qyH (_n:Nat) (charset0:Int):Option AV :=
 bif (!(z44 charset0)) then
 qjc (0:Int)
 else
 qjc (IntKind.wrap .i64 ((IntKind.wrap .i64 (((List.length (z48 charset0 (2:Int)):Nat):Int)+(1:Int)))+(1:Int)))
def qrv (s2:List Int):Option AV:=some (.dat (.sl (.int .i32)) s2 (some (2,21)))
def qei (k0:List Int→Option AV) (next:List Int→List UInt8→Int→Int→Option AV) (_n:Nat) (t3:List Int) (s9:List UInt8) (s10:Int) (s11:Int):Option AV :=
 bif (decide (s11 < s10)) then
 bif ((decide ((0:Int)≤s11))&&(decide (s11 < (List.length s9:Nat)))) then
 bif ((decide ((0:Int)≤s11))&&(decide (s11 < (List.length t3:Nat)))) then
 next (List.set t3 (Int.toNat s11) (IntKind.wrap .i32 ((UInt8.toNat (List.getD s9 (Int.toNat s11) (0:UInt8)):Nat):Int))) s9 s10 (IntKind.wrap .i64 (s11+(1:Int)))
 else none
 else none
 else
 k0 t3
def qkq (k0:List Int→Option AV):Nat→List Int→List UInt8→Int→Int→Option AV
 | 0=>fun _ _ _ _=>none
 | n+1=>qei k0 (qkq k0 n) n
def qfV (_n:Nat) (t3:List Int):Option AV :=
 qrv t3
def qve (n:Nat) (s0:List UInt8):Option AV :=
 bif (((decide ((0:Int)≤((List.length s0:Nat):Int)))&&(decide (((List.length s0:Nat):Int)≤((List.length s0:Nat):Int))))&&(decide (((List.length s0:Nat):Int)≤(room:Int)))) then
 qkq (qfV n) n (List.replicate (Int.toNat ((List.length s0:Nat):Int)) (0:Int)) s0 ((List.length s0:Nat):Int) (0:Int)
 else none
def qkr (s2:Int):Option AV:=some (.dat (.int .i32) s2 none)
def qrw (_n:Nat) (c0:Int):Option AV :=
 bif (decide ((128:Int)≤c0)) then
 qkr (65533:Int)
 else
 qkr c0
def qrx (s2:List Int):Option AV:=some (.dat (.sl (.int .i32)) s2 (some (2,21)))
def qej (k0:List Int→Option AV) (next:List Int→Int→Int→Option AV) (_n:Nat) (t3:List Int) (s10:Int) (s11:Int):Option AV :=
 bif (decide (s11 < s10)) then
 bif ((decide ((0:Int)≤s11))&&(decide (s11 < (List.length t3:Nat)))) then
 bif ((decide ((0:Int)≤s11))&&(decide (s11 < (List.length t3:Nat)))) then
 next (List.set t3 (Int.toNat s11) (z138 (List.getD t3 (Int.toNat s11) (0:Int)))) s10 (IntKind.wrap .i64 (s11+(1:Int)))
 else none
 else none
 else
 k0 t3
def qks (k0:List Int→Option AV):Nat→List Int→Int→Int→Option AV
 | 0=>fun _ _ _=>none
 | n+1=>qej k0 (qks k0 n) n
def qfW (_n:Nat) (t3:List Int):Option AV :=
 qrx t3
def qvf (n:Nat) (s0:List UInt8):Option AV :=
 bif ((qnn s0)&&true) then
 qks (qfW n) n (z97 s0) ((List.length (z97 s0):Nat):Int) (0:Int)
 else none
def qry (s0:List (UInt8×(Int×Unit))):Option AV:=some (.dat (.arr 8 (.pair .byte (.pair (.int .i32) .unit))) s0 none)
def qwz (_n:Nat):Option AV :=
 qry ([((164:UInt8),((8364:Int),())),((166:UInt8),((352:Int),())),((168:UInt8),((353:Int),())),((180:UInt8),((381:Int),())),((184:UInt8),((382:Int),())),((188:UInt8),((338:Int),())),((189:UInt8),((339:Int),())),((190:UInt8),((376:Int),()))]:List (UInt8×(Int×Unit)))
def qal (s2:Int):Option AV:=some (.dat (.int .i32) s2 none)
def qlV (ret:Int→Option AV) (k0:UInt8→Option AV) (next:UInt8→List (UInt8×(Int×Unit))→Int→Option AV) (_n:Nat) (x0:UInt8) (s5:List (UInt8×(Int×Unit))) (s6:Int):Option AV :=
 bif (decide (s6 < (8:Int))) then
 bif ((decide ((0:Int)≤s6))&&(decide (s6 < (8:Nat)))) then
 bif ((List.getD s5 (Int.toNat s6) ((0:UInt8),((0:Int),()))).1==x0) then
 ret (List.getD s5 (Int.toNat s6) ((0:UInt8),((0:Int),()))).2.1
 else
 next x0 s5 (IntKind.wrap .i64 (s6+(1:Int)))
 else none
 else
 k0 x0
def qgF (ret:Int→Option AV) (k0:UInt8→Option AV):Nat→UInt8→List (UInt8×(Int×Unit))→Int→Option AV
 | 0=>fun _ _ _=>none
 | n+1=>qlV ret k0 (qgF ret k0 n) n
def qfa (_n:Nat) (x0:UInt8):Option AV :=
 qal (IntKind.wrap .i32 ((UInt8.toNat x0:Nat):Int))
def qlW (n:Nat) (x0:UInt8):Option AV :=
 qgF qal (qfa n) n x0 z185 (0:Int)
def qwA (s2:List Int):Option AV:=some (.dat (.sl (.int .i32)) s2 (some (2,21)))
def qek (k0:List Int→Option AV) (next:List Int→List UInt8→Int→Int→Option AV) (_n:Nat) (t3:List Int) (s6:List UInt8) (s7:Int) (s8:Int):Option AV :=
 bif (decide (s8 < s7)) then
 bif ((decide ((0:Int)≤s8))&&(decide (s8 < (List.length s6:Nat)))) then
 bif (decide (List.length t3+List.length ([(z139 (List.getD s6 (Int.toNat s8) (0:UInt8)))]:List Int)≤room)) then
 next (t3++([(z139 (List.getD s6 (Int.toNat s8) (0:UInt8)))]:List Int)) s6 s7 (IntKind.wrap .i64 (s8+(1:Int)))
 else none
 else none
 else
 k0 t3
def qkt (k0:List Int→Option AV):Nat→List Int→List UInt8→Int→Int→Option AV
 | 0=>fun _ _ _ _=>none
 | n+1=>qek k0 (qkt k0 n) n
def qel (_n:Nat) (t3:List Int):Option AV :=
 qwA t3
def qvg (n:Nat) (s0:List UInt8):Option AV :=
 qkt (qel n) n ([]:List Int) s0 ((List.length s0:Nat):Int) (0:Int)
def qrz (s0:List Int):Option AV:=some (.dat (.sl (.int .i32)) s0 none)
def qwB (_n:Nat):Option AV :=
 qrz (List.drop 0 (List.take 32 ([(8364:Int),(0:Int),(8218:Int),(402:Int),(8222:Int),(8230:Int),(8224:Int),(8225:Int),(710:Int),(8240:Int),(352:Int),(8249:Int),(338:Int),(0:Int),(381:Int),(0:Int),(0:Int),(8216:Int),(8217:Int),(8220:Int),(8221:Int),(8226:Int),(8211:Int),(8212:Int),(732:Int),(8482:Int),(353:Int),(8250:Int),(339:Int),(0:Int),(382:Int),(376:Int)]:List Int)))
def qfX (s2:Int):Option AV:=some (.dat (.int .i32) s2 none)
def qrA (_n:Nat) (x0:UInt8):Option AV :=
 bif (decide (x0 < (128:UInt8))) then
 qfX (IntKind.wrap .i32 ((UInt8.toNat x0:Nat):Int))
 else
 bif (decide ((160:UInt8)≤x0)) then
 qfX (IntKind.wrap .i32 ((UInt8.toNat x0:Nat):Int))
 else
 bif ((decide ((0:Int)≤((UInt8.toNat (x0 - (128:UInt8)):Nat):Int)))&&(decide (((UInt8.toNat (x0 - (128:UInt8)):Nat):Int) < (List.length z186:Nat)))) then
 bif ((List.getD z186 (Int.toNat ((UInt8.toNat (x0 - (128:UInt8)):Nat):Int)) (0:Int)) != (0:Int)) then
 qfX (List.getD z186 (Int.toNat ((UInt8.toNat (x0 - (128:UInt8)):Nat):Int)) (0:Int))
 else
 qfX (65533:Int)
 else none
def qwC (s2:List Int):Option AV:=some (.dat (.sl (.int .i32)) s2 (some (2,21)))
def qem (k0:List Int→Option AV) (next:List Int→List UInt8→Int→Int→Option AV) (_n:Nat) (t3:List Int) (s9:List UInt8) (s10:Int) (s11:Int):Option AV :=
 bif (decide (s11 < s10)) then
 bif ((decide ((0:Int)≤s11))&&(decide (s11 < (List.length s9:Nat)))) then
 bif (decide (List.length t3+List.length ([(z140 (List.getD s9 (Int.toNat s11) (0:UInt8)))]:List Int)≤room)) then
 next (t3++([(z140 (List.getD s9 (Int.toNat s11) (0:UInt8)))]:List Int)) s9 s10 (IntKind.wrap .i64 (s11+(1:Int)))
 else none
 else none
 else
 k0 t3
def qku (k0:List Int→Option AV):Nat→List Int→List UInt8→Int→Int→Option AV
 | 0=>fun _ _ _ _=>none
 | n+1=>qem k0 (qku k0 n) n
def qen (_n:Nat) (t3:List Int):Option AV :=
 qwC t3
def qvh (n:Nat) (s0:List UInt8):Option AV :=
 bif (((decide ((0:Int)≤(0:Int)))&&(decide ((0:Int)≤((List.length s0:Nat):Int))))&&(decide (((List.length s0:Nat):Int)≤(room:Int)))) then
 qku (qen n) n (List.replicate (Int.toNat (0:Int)) (0:Int)) s0 ((List.length s0:Nat):Int) (0:Int)
 else none
def qkv (s13:List Int):Option AV:=some (.tup [(.tup []),.bad,.bad,(.pbox (.osl 21 (.int .i32)) s13 none)])
def qrB (_n:Nat) (c0:Int) (e1:Int) (x2:List Int):Option AV :=
 bif (e1 != (0:Int)) then
 bif (decide (List.length x2+List.length ([(65533:Int)]:List Int)≤room)) then
 qkv (x2++([(65533:Int)]:List Int))
 else none
 else
 bif (decide (List.length x2+List.length ([c0]:List Int)≤room)) then
 qkv (x2++([c0]:List Int))
 else none
def qcQ (s2:Int):Option AV:=some (.dat (.int .i64) s2 none)
def qrC (_n:Nat) (c0:UInt8):Option AV :=
 bif (decide (c0 < (128:UInt8))) then
 qcQ (1:Int)
 else
 bif (decide (c0 < (194:UInt8))) then
 qcQ (0:Int)
 else
 bif (decide ((244:UInt8) < c0)) then
 qcQ (0:Int)
 else
 bif (decide (c0 < (224:UInt8))) then
 qcQ (2:Int)
 else
 bif (decide (c0 < (240:UInt8))) then
 qcQ (3:Int)
 else
 qcQ (4:Int)
def qrD (s2:Bool):Option AV:=some (.dat .bool s2 none)
def qrE (_n:Nat) (c0:UInt8):Option AV :=
 qrD ((c0 &&& ~~~ (63:UInt8))==(128:UInt8))
def qbg (s4:Bool):Option AV:=some (.dat .bool s4 none)
def qrF (_n:Nat) (first0:UInt8) (c1:UInt8):Option AV :=
 bif (first0==(224:UInt8)) then
 bif (decide ((160:UInt8)≤c1)) then
 qbg (z235 c1)
 else
 qbg false
 else
 bif (first0==(237:UInt8)) then
 bif (decide (c1 < (160:UInt8))) then
 qbg (z235 c1)
 else
 qbg false
 else
 bif (first0==(240:UInt8)) then
 bif (decide ((144:UInt8)≤c1)) then
 qbg (z235 c1)
 else
 qbg false
 else
 bif (first0==(244:UInt8)) then
 bif (decide (c1 < (144:UInt8))) then
 qbg (z235 c1)
 else
 qbg false
 else
 qbg (z235 c1)
def qam (s2:Int):Option AV:=some (.dat (.int .i64) s2 none)
def qaR (ret:Int→Option AV) (k0:List UInt8→Int→Option AV) (next:List UInt8→Int→Option AV) (_n:Nat) (s0:List UInt8) (n3:Int):Option AV :=
 bif ((decide ((0:Int)≤(0:Int)))&&(decide ((0:Int) < (List.length s0:Nat)))) then
 bif (decide (n3 < (z217 (List.getD s0 (Int.toNat (0:Int)) (0:UInt8))))) then
 bif (decide (n3 < ((List.length s0:Nat):Int))) then
 bif ((decide ((0:Int)≤n3))&&(decide (n3 < (List.length s0:Nat)))) then
 bif (!(z235 (List.getD s0 (Int.toNat n3) (0:UInt8)))) then
 ret n3
 else
 bif (n3==(1:Int)) then
 bif ((decide ((0:Int)≤(0:Int)))&&(decide ((0:Int) < (List.length s0:Nat)))) then
 bif ((decide ((0:Int)≤(1:Int)))&&(decide ((1:Int) < (List.length s0:Nat)))) then
 bif (!(z236 (List.getD s0 (Int.toNat (0:Int)) (0:UInt8)) (List.getD s0 (Int.toNat (1:Int)) (0:UInt8)))) then
 ret n3
 else
 next s0 (IntKind.wrap .i64 (n3+(1:Int)))
 else none
 else none
 else
 next s0 (IntKind.wrap .i64 (n3+(1:Int)))
 else none
 else
 k0 s0 n3
 else
 k0 s0 n3
 else none
def qeC (ret:Int→Option AV) (k0:List UInt8→Int→Option AV):Nat→List UInt8→Int→Option AV
 | 0=>fun _ _=>none
 | n+1=>qaR ret k0 (qeC ret k0 n) n
def qT (_n:Nat) (s0:List UInt8) (n3:Int):Option AV :=
 bif ((decide ((0:Int)≤(0:Int)))&&(decide ((0:Int) < (List.length s0:Nat)))) then
 qam (bif (decide ((z217 (List.getD s0 (Int.toNat (0:Int)) (0:UInt8))) < n3)) then (z217 (List.getD s0 (Int.toNat (0:Int)) (0:UInt8))) else n3)
 else none
def qlX (n:Nat) (s0:List UInt8):Option AV :=
 qeC qam (qT n) n s0 (1:Int)
def qfY (s2:UInt8):Option AV:=some (.dat .byte s2 none)
def qrG (_n:Nat) (n0:Int):Option AV :=
 bif (n0==(2:Int)) then
 qfY (192:UInt8)
 else
 bif (n0==(3:Int)) then
 qfY (224:UInt8)
 else
 bif (n0==(4:Int)) then
 qfY (240:UInt8)
 else
 qfY (0:UInt8)
def qbw (s2:Int) (s3:Int) (s4:Int):Option AV:=some (.tup [(.dat (.int .i32) s2 none),(.dat (.int .i64) s3 none),(.dat (.int .i64) s4 none)])
def qbn (k1:Int→Int→Option AV) (next:Int→Int→List UInt8→Int→Int→Option AV) (_n:Nat) (n5:Int) (c6:Int) (s48:List UInt8) (s49:Int) (s50:Int):Option AV :=
 bif (decide (s50 < s49)) then
 bif ((decide ((0:Int)≤s50))&&(decide (s50 < (List.length s48:Nat)))) then
 next n5 (bits .or .i32 (IntKind.wrap .i32 (c6*2 ^ (min (Int.toNat (6:Int)) (IntKind.bits .i32)))) (IntKind.wrap .i32 ((UInt8.toNat ((List.getD s48 (Int.toNat s50) (0:UInt8)) &&& (63:UInt8)):Nat):Int))) s48 s49 (IntKind.wrap .i64 (s50+(1:Int)))
 else none
 else
 k1 n5 c6
def qbZ (k1:Int→Int→Option AV):Nat→Int→Int→List UInt8→Int→Int→Option AV
 | 0=>fun _ _ _ _ _=>none
 | n+1=>qbn k1 (qbZ k1 n) n
def qbo (_n:Nat) (n5:Int) (c6:Int):Option AV :=
 qbw c6 n5 (0:Int)
def qlY (n:Nat) (s0:List UInt8):Option AV :=
 bif (((List.length s0:Nat):Int)==(0:Int)) then
 qbw (0:Int) (0:Int) (4:Int)
 else
 bif ((qgB s0)&&true) then
 bif ((z216 s0)==(0:Int)) then
 qbw (0:Int) (1:Int) (3:Int)
 else
 bif ((decide ((0:Int)≤(0:Int)))&&(decide ((0:Int) < (List.length s0:Nat)))) then
 bif (decide ((z216 s0) < (z217 (List.getD s0 (Int.toNat (0:Int)) (0:UInt8))))) then
 bif ((z216 s0)==((List.length s0:Nat):Int)) then
 qbw (0:Int) (z216 s0) (4:Int)
 else
 bif ((decide ((0:Int)≤(0:Int)))&&(decide ((0:Int) < (List.length s0:Nat)))) then
 bif (decide ((z216 s0) < (z217 (List.getD s0 (Int.toNat (0:Int)) (0:UInt8))))) then
 qbw (0:Int) (z216 s0) (3:Int)
 else
 bif ((decide ((0:Int)≤(0:Int)))&&(decide ((0:Int) < (List.length s0:Nat)))) then
 bif (((decide ((0:Int)≤(1:Int)))&&(decide ((1:Int)≤(z216 s0))))&&(decide ((z216 s0)≤((List.length s0:Nat):Int)))) then
 qbZ (qbo n) n (z216 s0) (IntKind.wrap .i32 ((UInt8.toNat ((List.getD s0 (Int.toNat (0:Int)) (0:UInt8)) &&& ~~~ (z218 (z216 s0))):Nat):Int)) (List.drop (Int.toNat (1:Int)) (List.take (Int.toNat (z216 s0)) s0)) ((List.length (List.drop (Int.toNat (1:Int)) (List.take (Int.toNat (z216 s0)) s0)):Nat):Int) (0:Int)
 else none
 else none
 else none
 else
 bif ((decide ((0:Int)≤(0:Int)))&&(decide ((0:Int) < (List.length s0:Nat)))) then
 bif (decide ((z216 s0) < (z217 (List.getD s0 (Int.toNat (0:Int)) (0:UInt8))))) then
 qbw (0:Int) (z216 s0) (3:Int)
 else
 bif ((decide ((0:Int)≤(0:Int)))&&(decide ((0:Int) < (List.length s0:Nat)))) then
 bif (((decide ((0:Int)≤(1:Int)))&&(decide ((1:Int)≤(z216 s0))))&&(decide ((z216 s0)≤((List.length s0:Nat):Int)))) then
 qbZ (qbo n) n (z216 s0) (IntKind.wrap .i32 ((UInt8.toNat ((List.getD s0 (Int.toNat (0:Int)) (0:UInt8)) &&& ~~~ (z218 (z216 s0))):Nat):Int)) (List.drop (Int.toNat (1:Int)) (List.take (Int.toNat (z216 s0)) s0)) ((List.length (List.drop (Int.toNat (1:Int)) (List.take (Int.toNat (z216 s0)) s0)):Nat):Int) (0:Int)
 else none
 else none
 else none
 else none
 else none
def qan (s24:List Int):Option AV:=some (.tup [(.tup []),.bad,(.pbox (.osl 21 (.int .i32)) s24 none)])
def qbx (k0:List Int→Option AV) (next:List UInt8→List Int→Option AV) (_n:Nat) (s0:List UInt8) (s24:List Int):Option AV :=
 bif (decide ((0:Int) < ((List.length s0:Nat):Int))) then
 bif ((qlI s0)&&true) then
 bif (qlM ((z187 s0).1) ((z187 s0).2.2) s24) then
 bif (((decide ((0:Int)≤((z187 s0).2.1)))&&(decide (((z187 s0).2.1)≤((List.length s0:Nat):Int))))&&(decide (((List.length s0:Nat):Int)≤((List.length s0:Nat):Int)))) then
 next (List.drop (Int.toNat ((z187 s0).2.1)) (List.take (Int.toNat ((List.length s0:Nat):Int)) s0)) (z142 ((z187 s0).1) ((z187 s0).2.2) s24)
 else none
 else none
 else none
 else
 k0 s24
def qas (k0:List Int→Option AV):Nat→List UInt8→List Int→Option AV
 | 0=>fun _ _=>none
 | n+1=>qbx k0 (qas k0 n) n
def qao (_n:Nat) (s24:List Int):Option AV :=
 qan s24
def qfZ (n:Nat) (s0:List UInt8) (f1:List Int):Option AV :=
 qas (qao n) n s0 f1
def qwD (s2:List Int):Option AV:=some (.dat (.sl (.int .i32)) s2 none)
def qyI (_n:Nat) (s0:List UInt8):Option AV :=
 bif (qbl s0 ([]:List Int)) then
 qwD (qqN s0 ([]:List Int))
 else none
def qgG (s4:List Int):Option AV:=some (.dat (.sl (.int .i32)) s4 none)
def qyJ (_n:Nat) (charset0:Int) (s1:List UInt8):Option AV :=
 bif (charset0==(1:Int)) then
 bif ((quv s1)&&true) then
 qgG (z93 s1)
 else none
 else
 bif (charset0==(3:Int)) then
 bif ((qut s1)&&true) then
 qgG (z94 s1)
 else none
 else
 bif (charset0==(4:Int)) then
 bif ((quu s1)&&true) then
 qgG (z95 s1)
 else none
 else
 bif (charset0==(5:Int)) then
 bif ((qus s1)&&true) then
 qgG (z96 s1)
 else none
 else
 bif ((qnn s1)&&true) then
 qgG (z97 s1)
 else none
def qrH (s0:List ((List UInt8)×Int)):Option AV:=some (.abs (.sl (.pair .str (.int .i64))) (qae .str (.int .i64)) s0)
def qlZ (k2:List ((List UInt8)×Int)→Int→Option AV) (next:List ((List UInt8)×Int)→Int→List (List UInt8)→Int→Int→Option AV) (_n:Nat) (m1:List ((List UInt8)×Int)) (n2:Int) (s11:List (List UInt8)) (s12:Int) (s13:Int):Option AV :=
 bif (decide (s13 < s12)) then
 bif ((decide ((0:Int)≤s13))&&(decide (s13 < (List.length s11:Nat)))) then
 next (@putM .str (.int .i64) (List.getD s11 (Int.toNat s13) ([]:List UInt8)) n2 m1) n2 s11 s12 (IntKind.wrap .i64 (s13+(1:Int)))
 else none
 else
 k2 m1 n2
def qgH (k2:List ((List UInt8)×Int)→Int→Option AV):Nat→List ((List UInt8)×Int)→Int→List (List UInt8)→Int→Int→Option AV
 | 0=>fun _ _ _ _ _=>none
 | n+1=>qlZ k2 (qgH k2 n) n
def qfb (_k0:List ((List UInt8)×Int)→Option AV) (next:List ((List UInt8)×Int)→Int→Option AV) (_n:Nat) (m1:List ((List UInt8)×Int)) (n2:Int):Option AV :=
 next m1 (IntKind.wrap .i64 (n2+(1:Int)))
def qhS (k0:List ((List UInt8)×Int)→Option AV) (next:List ((List UInt8)×Int)→Int→Option AV) (n:Nat) (m1:List ((List UInt8)×Int)) (n2:Int):Option AV :=
 bif (decide (n2≤(5:Int))) then
 qgH (qfb k0 next n) n m1 n2 (z133 n2) ((List.length (z133 n2):Nat):Int) (0:Int)
 else
 k0 m1
def qgI (k0:List ((List UInt8)×Int)→Option AV):Nat→List ((List UInt8)×Int)→Int→Option AV
 | 0=>fun _ _=>none
 | n+1=>qhS k0 (qgI k0 n) n
def qfc (_n:Nat) (m1:List ((List UInt8)×Int)):Option AV :=
 qrH m1
def qrI (n:Nat):Option AV :=
 qgI (qfc n) n ([]:List ((List UInt8)×Int)) (1:Int)
def qkw (s4:List UInt8):Option AV:=some (.dat (.sl .byte) s4 none)
def qma (k0:List UInt8→Option AV) (next:List UInt8→UInt8→Option AV) (_n:Nat) (s0:List UInt8) (c1:UInt8):Option AV :=
 bif (decide ((0:Int) < ((List.length s0:Nat):Int))) then
 bif ((decide ((0:Int)≤(0:Int)))&&(decide ((0:Int) < (List.length s0:Nat)))) then
 bif ((List.getD s0 (Int.toNat (0:Int)) (0:UInt8))==c1) then
 bif (((decide ((0:Int)≤(1:Int)))&&(decide ((1:Int)≤((List.length s0:Nat):Int))))&&(decide (((List.length s0:Nat):Int)≤((List.length s0:Nat):Int)))) then
 next (List.drop (Int.toNat (1:Int)) (List.take (Int.toNat ((List.length s0:Nat):Int)) s0)) c1
 else none
 else
 k0 s0
 else none
 else
 k0 s0
def qgJ (k0:List UInt8→Option AV):Nat→List UInt8→UInt8→Option AV
 | 0=>fun _ _=>none
 | n+1=>qma k0 (qgJ k0 n) n
def qfd (_n:Nat) (s0:List UInt8):Option AV :=
 bif (((List.length s0:Nat):Int)==(0:Int)) then
 qkw ([]:List UInt8)
 else
 qkw s0
def qrJ (n:Nat) (s0:List UInt8) (c1:UInt8):Option AV :=
 qgJ (qfd n) n s0 c1
def qrK (s4:List UInt8):Option AV:=some (.dat (.sl .byte) s4 none)
def qmb (k0:List UInt8→Option AV) (next:List UInt8→UInt8→Option AV) (_n:Nat) (s0:List UInt8) (c1:UInt8):Option AV :=
 bif (decide ((0:Int) < ((List.length s0:Nat):Int))) then
 bif ((decide ((0:Int)≤(IntKind.wrap .i64 (((List.length s0:Nat):Int) - (1:Int)))))&&(decide ((IntKind.wrap .i64 (((List.length s0:Nat):Int) - (1:Int))) < (List.length s0:Nat)))) then
 bif ((List.getD s0 (Int.toNat (IntKind.wrap .i64 (((List.length s0:Nat):Int) - (1:Int)))) (0:UInt8))==c1) then
 bif (((decide ((0:Int)≤((0:Nat):Int)))&&(decide (((0:Nat):Int)≤(IntKind.wrap .i64 (((List.length s0:Nat):Int) - (1:Int))))))&&(decide ((IntKind.wrap .i64 (((List.length s0:Nat):Int) - (1:Int)))≤((List.length s0:Nat):Int)))) then
 next (List.drop (Int.toNat ((0:Nat):Int)) (List.take (Int.toNat (IntKind.wrap .i64 (((List.length s0:Nat):Int) - (1:Int)))) s0)) c1
 else none
 else
 k0 s0
 else none
 else
 k0 s0
def qgK (k0:List UInt8→Option AV):Nat→List UInt8→UInt8→Option AV
 | 0=>fun _ _=>none
 | n+1=>qmb k0 (qgK k0 n) n
def qfe (_n:Nat) (s0:List UInt8):Option AV :=
 qrK s0
def qrL (n:Nat) (s0:List UInt8) (c1:UInt8):Option AV :=
 qgK (qfe n) n s0 c1
def qga (as2:List Bool) (ok3:Bool):Option AV:=some (.tup [(.dat (.arr 256 .bool) as2 none),(.dat .bool ok3 none)])
def qcn (ret:List Bool→Bool→Option AV) (k0:List Bool→Option AV) (next:List UInt8→List Bool→Int→Option AV) (_n:Nat) (chars0:List UInt8) (as2:List Bool) (i4:Int):Option AV :=
 bif (decide (i4 < ((List.length chars0:Nat):Int))) then
 bif ((decide ((0:Int)≤i4))&&(decide (i4 < (List.length chars0:Nat)))) then
 bif (decide ((128:UInt8)≤(List.getD chars0 (Int.toNat i4) (0:UInt8)))) then
 ret as2 false
 else
 bif ((decide ((0:Int)≤((UInt8.toNat (List.getD chars0 (Int.toNat i4) (0:UInt8)):Nat):Int)))&&(decide (((UInt8.toNat (List.getD chars0 (Int.toNat i4) (0:UInt8)):Nat):Int) < (256:Nat)))) then
 next chars0 (List.set as2 (Int.toNat ((UInt8.toNat (List.getD chars0 (Int.toNat i4) (0:UInt8)):Nat):Int)) true) (IntKind.wrap .i64 (i4+(1:Int)))
 else none
 else none
 else
 k0 as2
def qdy (ret:List Bool→Bool→Option AV) (k0:List Bool→Option AV):Nat→List UInt8→List Bool→Int→Option AV
 | 0=>fun _ _ _=>none
 | n+1=>qcn ret k0 (qdy ret k0 n) n
def qdz (_n:Nat) (as2:List Bool):Option AV :=
 qga as2 true
def qrM (n:Nat) (chars0:List UInt8):Option AV :=
 qdy qga (qdz n) n chars0 (List.replicate 256 false) (0:Int)
def qrN (s4:Bool):Option AV:=some (.dat .bool s4 none)
def qrO (_n:Nat) (as0:List Bool) (c1:UInt8):Option AV :=
 bif ((decide ((0:Int)≤((UInt8.toNat c1:Nat):Int)))&&(decide (((UInt8.toNat c1:Nat):Int) < (256:Nat)))) then
 qrN (List.getD as0 (Int.toNat ((UInt8.toNat c1:Nat):Int)) false)
 else none
def qkx (s4:List UInt8):Option AV:=some (.dat (.sl .byte) s4 none)
def qff (k0:List UInt8→Option AV) (next:List UInt8→List Bool→Option AV) (_n:Nat) (s0:List UInt8) (as1:List Bool):Option AV :=
 bif (decide ((0:Int) < ((List.length s0:Nat):Int))) then
 bif ((decide ((0:Int)≤(0:Int)))&&(decide ((0:Int) < (List.length s0:Nat)))) then
 bif (!(z238 as1 (List.getD s0 (Int.toNat (0:Int)) (0:UInt8)))) then
 k0 s0
 else
 bif (((decide ((0:Int)≤(1:Int)))&&(decide ((1:Int)≤((List.length s0:Nat):Int))))&&(decide (((List.length s0:Nat):Int)≤((List.length s0:Nat):Int)))) then
 next (List.drop (Int.toNat (1:Int)) (List.take (Int.toNat ((List.length s0:Nat):Int)) s0)) as1
 else none
 else none
 else
 k0 s0
def qeD (k0:List UInt8→Option AV):Nat→List UInt8→List Bool→Option AV
 | 0=>fun _ _=>none
 | n+1=>qff k0 (qeD k0 n) n
def qdA (_n:Nat) (s0:List UInt8):Option AV :=
 bif (((List.length s0:Nat):Int)==(0:Int)) then
 qkx ([]:List UInt8)
 else
 qkx s0
def qmc (n:Nat) (s0:List UInt8) (as1:List Bool):Option AV :=
 qeD (qdA n) n s0 as1
def qrP (s4:List UInt8):Option AV:=some (.dat (.sl .byte) s4 none)
def qfg (k0:List UInt8→Option AV) (next:List UInt8→List Bool→Option AV) (_n:Nat) (s0:List UInt8) (as1:List Bool):Option AV :=
 bif (decide ((0:Int) < ((List.length s0:Nat):Int))) then
 bif ((decide ((0:Int)≤(IntKind.wrap .i64 (((List.length s0:Nat):Int) - (1:Int)))))&&(decide ((IntKind.wrap .i64 (((List.length s0:Nat):Int) - (1:Int))) < (List.length s0:Nat)))) then
 bif (!(z238 as1 (List.getD s0 (Int.toNat (IntKind.wrap .i64 (((List.length s0:Nat):Int) - (1:Int)))) (0:UInt8)))) then
 k0 s0
 else
 bif (((decide ((0:Int)≤((0:Nat):Int)))&&(decide (((0:Nat):Int)≤(IntKind.wrap .i64 (((List.length s0:Nat):Int) - (1:Int))))))&&(decide ((IntKind.wrap .i64 (((List.length s0:Nat):Int) - (1:Int)))≤((List.length s0:Nat):Int)))) then
 next (List.drop (Int.toNat ((0:Nat):Int)) (List.take (Int.toNat (IntKind.wrap .i64 (((List.length s0:Nat):Int) - (1:Int)))) s0)) as1
 else none
 else none
 else
 k0 s0
def qeE (k0:List UInt8→Option AV):Nat→List UInt8→List Bool→Option AV
 | 0=>fun _ _=>none
 | n+1=>qfg k0 (qeE k0 n) n
def qfh (_n:Nat) (s0:List UInt8):Option AV :=
 qrP s0
def qmd (n:Nat) (s0:List UInt8) (as1:List Bool):Option AV :=
 qeE (qfh n) n s0 as1
def qca (s4:List UInt8):Option AV:=some (.dat (.sl .byte) s4 none)
def qrQ (_n:Nat) (s0:List UInt8) (cutset1:List UInt8):Option AV :=
 bif (((List.length s0:Nat):Int)==(0:Int)) then
 qca ([]:List UInt8)
 else
 bif (cutset1==([]:List UInt8)) then
 qca s0
 else
 bif (((List.length cutset1:Nat):Int)==(1:Int)) then
 bif ((decide ((0:Int)≤(0:Int)))&&(decide ((0:Int) < (List.length cutset1:Nat)))) then
 bif (decide ((List.getD cutset1 (Int.toNat (0:Int)) (0:UInt8)) < (128:UInt8))) then
 bif ((decide ((0:Int)≤(0:Int)))&&(decide ((0:Int) < (List.length cutset1:Nat)))) then
 bif ((decide ((0:Int)≤(0:Int)))&&(decide ((0:Int) < (List.length cutset1:Nat)))) then
 bif ((qsz s0 (List.getD cutset1 (Int.toNat (0:Int)) (0:UInt8)))&&true) then
 bif ((qsy (z222 s0 (List.getD cutset1 (Int.toNat (0:Int)) (0:UInt8))) (List.getD cutset1 (Int.toNat (0:Int)) (0:UInt8)))&&true) then
 qca (z221 (z222 s0 (List.getD cutset1 (Int.toNat (0:Int)) (0:UInt8))) (List.getD cutset1 (Int.toNat (0:Int)) (0:UInt8)))
 else none
 else none
 else none
 else none
 else
 bif ((qgm cutset1)&&true) then
 bif ((z223 cutset1).2) then
 bif ((qjl s0 ((z223 cutset1).1))&&true) then
 bif ((qjk (z225 s0 ((z223 cutset1).1)) ((z223 cutset1).1))&&true) then
 qca (z224 (z225 s0 ((z223 cutset1).1)) ((z223 cutset1).1))
 else none
 else none
 else
 bif ((qsB s0 cutset1)&&true) then
 bif ((qsA (z227 s0 cutset1) cutset1)&&true) then
 qca (z226 (z227 s0 cutset1) cutset1)
 else none
 else none
 else none
 else none
 else
 bif ((qgm cutset1)&&true) then
 bif ((z223 cutset1).2) then
 bif ((qjl s0 ((z223 cutset1).1))&&true) then
 bif ((qjk (z225 s0 ((z223 cutset1).1)) ((z223 cutset1).1))&&true) then
 qca (z224 (z225 s0 ((z223 cutset1).1)) ((z223 cutset1).1))
 else none
 else none
 else
 bif ((qsB s0 cutset1)&&true) then
 bif ((qsA (z227 s0 cutset1) cutset1)&&true) then
 qca (z226 (z227 s0 cutset1) cutset1)
 else none
 else none
 else none
def qrR (s2:List UInt8):Option AV:=some (.dat (.sl .byte) s2 (some (2,5)))
def qrS (_n:Nat) (s0:List UInt8):Option AV :=
 bif ((qgQ s0 ([32,9]:List UInt8))&&true) then
 bif ((qcU (z190 s0 ([32,9]:List UInt8)))&&true) then
 qrR (z38 (z190 s0 ([32,9]:List UInt8)))
 else none
 else none
def qky (s2:List UInt8):Option AV:=some (.dat (.sl .byte) s2 (some (2,5)))
def qrT (_n:Nat) (s0:List UInt8):Option AV :=
 bif (decide ((0:Int)≤(z109 s0 (42:UInt8)))) then
 bif (((decide ((0:Int)≤((0:Nat):Int)))&&(decide (((0:Nat):Int)≤(z109 s0 (42:UInt8)))))&&(decide ((z109 s0 (42:UInt8))≤((List.length s0:Nat):Int)))) then
 bif ((qgR (List.drop (Int.toNat ((0:Nat):Int)) (List.take (Int.toNat (z109 s0 (42:UInt8))) s0)))&&true) then
 qky (z148 (List.drop (Int.toNat ((0:Nat):Int)) (List.take (Int.toNat (z109 s0 (42:UInt8))) s0)))
 else none
 else none
 else
 bif ((qgR s0)&&true) then
 qky (z148 s0)
 else none
def qrU (s2:Int) (s3:Int):Option AV:=some (.tup [(.dat (.int .i64) s2 none),(.dat (.int .i64) s3 none)])
def qyK (_n:Nat) (s0:List UInt8):Option AV :=
 bif ((qlJ s0)&&true) then
 bif ((qnF (z107 s0))&&true) then
 bif (!(Option.isSome (@findM .str (.int .i64) (z79 (z107 s0)) z106))) then
 qrU (0:Int) (10:Int)
 else
 qrU (Option.getD (@findM .str (.int .i64) (z79 (z107 s0)) z106) (0:Int)) (0:Int)
 else none
 else none
def qrV (s2:Int):Option AV:=some (.dat (.int .i64) s2 none)
def qyL (_n:Nat) (w0:(List UInt8)×(Int×((List UInt8)×Unit))):Option AV :=
 bif ((qux w0.1)&&true) then
 bif (((z58 w0.1).2) != (0:Int)) then
 qrV (2:Int)
 else
 qrV ((z58 w0.1).1)
 else none
def qkz (s2:Int) (s3:Bool):Option AV:=some (.tup [(.dat (.int .i64) s2 none),(.dat .bool s3 none)])
def qwE (_n:Nat) (c0:UInt8):Option AV :=
 qkz (bif (decide ((0:Int) > (z192 ([65,66,67,68,69,70,71,72,73,74,75,76,77,78,79,80,81,82,83,84,85,86,87,88,89,90,97,98,99,100,101,102,103,104,105,106,107,108,109,110,111,112,113,114,115,116,117,118,119,120,121,122,48,49,50,51,52,53,54,55,56,57,43,47]:List UInt8) c0))) then (0:Int) else (z192 ([65,66,67,68,69,70,71,72,73,74,75,76,77,78,79,80,81,82,83,84,85,86,87,88,89,90,97,98,99,100,101,102,103,104,105,106,107,108,109,110,111,112,113,114,115,116,117,118,119,120,121,122,48,49,50,51,52,53,54,55,56,57,43,47]:List UInt8) c0)) (decide ((0:Int)≤(z192 ([65,66,67,68,69,70,71,72,73,74,75,76,77,78,79,80,81,82,83,84,85,86,87,88,89,90,97,98,99,100,101,102,103,104,105,106,107,108,109,110,111,112,113,114,115,116,117,118,119,120,121,122,48,49,50,51,52,53,54,55,56,57,43,47]:List UInt8) c0)))
def qaI (V:Sigma Inv) (xv:Den V.1) (s29:List UInt8):Option AV:=some (.tup [(.tup []),(.abs V.1 V.2 xv),(.pbox (.leaf (.sl .byte)) s29 none)])
def qco (V:Sigma Inv) (ret:Den V.1→List UInt8→Option AV) (k0:Den V.1→List UInt8→Option AV) (next:List UInt8→Int→Int→Den V.1→List UInt8→Option AV) (_n:Nat) (s7:List UInt8) (s8:Int) (s9:Int) (xv:Den V.1) (s29:List UInt8):Option AV :=
 bif (decide (s9 < s8)) then
 bif ((decide ((0:Int)≤s9))&&(decide (s9 < (List.length s7:Nat)))) then
 bif ((List.getD s7 (Int.toNat s9) (0:UInt8))==(61:UInt8)) then
 ret xv s29
 else
 bif (!((z150 (List.getD s7 (Int.toNat s9) (0:UInt8))).2)) then
 bif (V.2.spec xv [⟨.byte,(List.getD s7 (Int.toNat s9) (0:UInt8))⟩,⟨(.int .i64),(-1:Int)⟩]).1 then
 bif (!(V.2.spec xv [⟨.byte,(List.getD s7 (Int.toNat s9) (0:UInt8))⟩,⟨(.int .i64),(-1:Int)⟩]).2.1) then
 ret (V.2.spec xv [⟨.byte,(List.getD s7 (Int.toNat s9) (0:UInt8))⟩,⟨(.int .i64),(-1:Int)⟩]).2.2 s29
 else
 next s7 s8 (IntKind.wrap .i64 (s9+(1:Int))) (V.2.spec xv [⟨.byte,(List.getD s7 (Int.toNat s9) (0:UInt8))⟩,⟨(.int .i64),(-1:Int)⟩]).2.2 s29
 else none
 else
 bif (V.2.spec xv [⟨.byte,(List.getD s7 (Int.toNat s9) (0:UInt8))⟩,⟨(.int .i64),((z150 (List.getD s7 (Int.toNat s9) (0:UInt8))).1)⟩]).1 then
 bif (!(V.2.spec xv [⟨.byte,(List.getD s7 (Int.toNat s9) (0:UInt8))⟩,⟨(.int .i64),((z150 (List.getD s7 (Int.toNat s9) (0:UInt8))).1)⟩]).2.1) then
 ret (V.2.spec xv [⟨.byte,(List.getD s7 (Int.toNat s9) (0:UInt8))⟩,⟨(.int .i64),((z150 (List.getD s7 (Int.toNat s9) (0:UInt8))).1)⟩]).2.2 s29
 else
 next s7 s8 (IntKind.wrap .i64 (s9+(1:Int))) (V.2.spec xv [⟨.byte,(List.getD s7 (Int.toNat s9) (0:UInt8))⟩,⟨(.int .i64),((z150 (List.getD s7 (Int.toNat s9) (0:UInt8))).1)⟩]).2.2 s29
 else none
 else none
 else
 k0 xv s29
def qdB (V:Sigma Inv) (ret:Den V.1→List UInt8→Option AV) (k0:Den V.1→List UInt8→Option AV):Nat→List UInt8→Int→Int→Den V.1→List UInt8→Option AV
 | 0=>fun _ _ _ _ _=>none
 | n+1=>(qco V) ret k0 ((qdB V) ret k0 n) n
def qby (V:Sigma Inv) (_n:Nat) (xv:Den V.1) (s29:List UInt8):Option AV :=
 (qaI V) xv s29
def qme (V:Sigma Inv) (n:Nat) (x0:Den V.1) (x1:List UInt8):Option AV :=
 (qdB V) (qaI V) ((qby V) n) n x1 ((List.length x1:Nat):Int) (0:Int) x0 x1
def qCV (_n:Nat) (s0:List UInt8):Option AV :=
 some (.abs (qcK [.leaf (.sl .byte)]) (clInv 219 [.leaf (.sl .byte)]) (s0,()))
def qgb (s2:List UInt8) (s3:Int):Option AV:=some (.tup [(.dat (.sl .byte) s2 none),(.dat (.int .i64) s3 none)])
def qaJ (n:Nat) (x:Bool×(List UInt8)×Int×Int×Unit) (y0:UInt8) (y1:Int):Bool×Bool×(Bool×(List UInt8)×Int×Int×Unit) :=
 bif x.1 then (false,false,x) else yfin (.pair (.sl .byte) (.pair (.int .i64) (.pair (.int .i64) .unit))) x (
 bif (decide (y1 < (0:Int))) then
 some (.dat (.pair .bool (.pair (.sl .byte) (.pair (.int .i64) (.pair (.int .i64) .unit)))) (false,(x.2.1,(x.2.2.1,(x.2.2.2.1,())))) none)
 else
 bif (decide ((8:Int)≤(IntKind.wrap .i64 (x.2.2.2.1+(6:Int))))) then
 bif (decide ((0:Int)≤(IntKind.wrap .i64 ((IntKind.wrap .i64 (x.2.2.2.1+(6:Int))) - (8:Int))))) then
 bif (decide (List.length x.2.1+List.length ([(UInt8.ofNat (Int.toNat (IntKind.wrap .u8 (Int.fdiv (bits .or .i64 (IntKind.wrap .i64 (x.2.2.1*2 ^ (min (Int.toNat (6:Int)) (IntKind.bits .i64)))) y1) (2 ^ (min (Int.toNat (IntKind.wrap .i64 ((IntKind.wrap .i64 (x.2.2.2.1+(6:Int))) - (8:Int)))) (IntKind.bits .i64)))))))]:List UInt8)≤room)) then
 bif (decide ((0:Int)≤(IntKind.wrap .i64 ((IntKind.wrap .i64 (x.2.2.2.1+(6:Int))) - (8:Int))))) then
 some (.dat (.pair .bool (.pair (.sl .byte) (.pair (.int .i64) (.pair (.int .i64) .unit)))) (false,((x.2.1++([(UInt8.ofNat (Int.toNat (IntKind.wrap .u8 (Int.fdiv (bits .or .i64 (IntKind.wrap .i64 (x.2.2.1*2 ^ (min (Int.toNat (6:Int)) (IntKind.bits .i64)))) y1) (2 ^ (min (Int.toNat (IntKind.wrap .i64 ((IntKind.wrap .i64 (x.2.2.2.1+(6:Int))) - (8:Int)))) (IntKind.bits .i64)))))))]:List UInt8)),((bits .and .i64 (bits .or .i64 (IntKind.wrap .i64 (x.2.2.1*2 ^ (min (Int.toNat (6:Int)) (IntKind.bits .i64)))) y1) (IntKind.wrap .i64 ((IntKind.wrap .i64 ((1:Int)*2 ^ (min (Int.toNat (IntKind.wrap .i64 ((IntKind.wrap .i64 (x.2.2.2.1+(6:Int))) - (8:Int)))) (IntKind.bits .i64)))) - (1:Int)))),((IntKind.wrap .i64 ((IntKind.wrap .i64 (x.2.2.2.1+(6:Int))) - (8:Int))),())))) none)
 else none
 else none
 else none
 else
 some (.dat (.pair .bool (.pair (.sl .byte) (.pair (.int .i64) (.pair (.int .i64) .unit)))) (false,(x.2.1,((bits .or .i64 (IntKind.wrap .i64 (x.2.2.1*2 ^ (min (Int.toNat (6:Int)) (IntKind.bits .i64)))) y1),((IntKind.wrap .i64 (x.2.2.2.1+(6:Int))),())))) none))
def qrW (n:Nat) (s0:List UInt8):Option AV :=
 bif (z219 (qaJ n) (false,(([]:List UInt8),((0:Int),((0:Int),())))) s0).1 then
 bif (z219 (qaJ n) (false,(([]:List UInt8),((0:Int),((0:Int),())))) s0).2.1.1 then
 qgb ([]:List UInt8) (0:Int)
 else
 both (
 both (
 qgb (z219 (qaJ n) (false,(([]:List UInt8),((0:Int),((0:Int),())))) s0).2.1.2.1 (z219 (qaJ n) (false,(([]:List UInt8),((0:Int),((0:Int),())))) s0).2.1.2.2.2.1) (
 qgb (z219 (qaJ n) (false,(([]:List UInt8),((0:Int),((0:Int),())))) s0).2.1.2.1 (z219 (qaJ n) (false,(([]:List UInt8),((0:Int),((0:Int),())))) s0).2.1.2.2.2.1)) (
 qgb (z219 (qaJ n) (false,(([]:List UInt8),((0:Int),((0:Int),())))) s0).2.1.2.1 (z219 (qaJ n) (false,(([]:List UInt8),((0:Int),((0:Int),())))) s0).2.1.2.2.2.1)
 else none
def qwF (s2:List UInt8):Option AV:=some (.dat (.sl .byte) s2 none)
def qyM (_n:Nat) (s0:List UInt8):Option AV :=
 bif ((qlK s0)&&true) then
 qwF ((z143 s0).1)
 else none
def qgc (s2:Int) (s3:Bool):Option AV:=some (.tup [(.dat (.int .i64) s2 none),(.dat .bool s3 none)])
def qrX (_n:Nat) (c0:UInt8):Option AV :=
 bif (z129 (z126 c0) (8:Int)) then
 qgc (IntKind.wrap .i64 ((UInt8.toNat ((z126 c0) - (48:UInt8)):Nat):Int)) true
 else
 bif (decide ((97:UInt8)≤(z126 c0))) then
 bif (decide ((z126 c0)≤(102:UInt8))) then
 qgc (IntKind.wrap .i64 ((IntKind.wrap .i64 ((UInt8.toNat ((z126 c0) - (97:UInt8)):Nat):Int))+(10:Int))) true
 else
 qgc (0:Int) false
 else
 qgc (0:Int) false
def qhT (s4:UInt8) (s5:Bool):Option AV:=some (.tup [(.dat .byte s4 none),(.dat .bool s5 none)])
def qrY (_n:Nat) (a0:UInt8) (b1:UInt8):Option AV :=
 bif (!((z237 a0).2)) then
 qhT (0:UInt8) false
 else
 bif (!((z237 b1).2)) then
 qhT (0:UInt8) false
 else
 qhT (UInt8.ofNat (Int.toNat (IntKind.wrap .u8 (bits .or .i64 (IntKind.wrap .i64 (((z237 a0).1)*2 ^ (min (Int.toNat (4:Int)) (IntKind.bits .i64)))) ((z237 b1).1))))) true
def qgd (s6:UInt8) (s7:Bool):Option AV:=some (.tup [(.dat .byte s6 none),(.dat .bool s7 none)])
def qrZ (_n:Nat) (s0:List UInt8) (at1:Int) (sign2:UInt8):Option AV :=
 bif (decide (at1 < (0:Int))) then
 qgd (0:UInt8) false
 else
 bif (decide ((IntKind.wrap .i64 (((List.length s0:Nat):Int) - (3:Int))) < at1)) then
 qgd (0:UInt8) false
 else
 bif ((decide ((0:Int)≤at1))&&(decide (at1 < (List.length s0:Nat)))) then
 bif ((List.getD s0 (Int.toNat at1) (0:UInt8)) != sign2) then
 qgd (0:UInt8) false
 else
 bif ((decide ((0:Int)≤(IntKind.wrap .i64 (at1+(1:Int)))))&&(decide ((IntKind.wrap .i64 (at1+(1:Int))) < (List.length s0:Nat)))) then
 bif ((decide ((0:Int)≤(IntKind.wrap .i64 (at1+(2:Int)))))&&(decide ((IntKind.wrap .i64 (at1+(2:Int))) < (List.length s0:Nat)))) then
 qgd ((z220 (List.getD s0 (Int.toNat (IntKind.wrap .i64 (at1+(1:Int)))) (0:UInt8)) (List.getD s0 (Int.toNat (IntKind.wrap .i64 (at1+(2:Int)))) (0:UInt8))).1) ((z220 (List.getD s0 (Int.toNat (IntKind.wrap .i64 (at1+(1:Int)))) (0:UInt8)) (List.getD s0 (Int.toNat (IntKind.wrap .i64 (at1+(2:Int)))) (0:UInt8))).2)
 else none
 else none
 else none
def qge (s2:List UInt8) (s3:Int):Option AV:=some (.tup [(.dat (.sl .byte) s2 none),(.dat (.int .i64) s3 none)])
def qfi (k0:List UInt8→Int→Option AV) (next:List UInt8→List UInt8→Int→Int→Option AV) (_n:Nat) (s0:List UInt8) (out4:List UInt8) (strange5:Int) (at6:Int):Option AV :=
 bif (decide (at6 < ((List.length s0:Nat):Int))) then
 bif ((decide ((0:Int)≤at6))&&(decide (at6 < (List.length s0:Nat)))) then
 bif ((List.getD s0 (Int.toNat at6) (0:UInt8))==(95:UInt8)) then
 bif (decide (List.length out4+List.length ([(32:UInt8)]:List UInt8)≤room)) then
 next s0 (out4++([(32:UInt8)]:List UInt8)) strange5 (IntKind.wrap .i64 (at6+(1:Int)))
 else none
 else
 bif ((List.getD s0 (Int.toNat at6) (0:UInt8))==(61:UInt8)) then
 bif ((qlG s0 at6 (61:UInt8))&&true) then
 bif ((z189 s0 at6 (61:UInt8)).2) then
 bif (decide (List.length out4+List.length ([((z189 s0 at6 (61:UInt8)).1)]:List UInt8)≤room)) then
 next s0 (out4++([((z189 s0 at6 (61:UInt8)).1)]:List UInt8)) strange5 (IntKind.wrap .i64 (at6+(3:Int)))
 else none
 else
 bif (decide (List.length out4+List.length ([(List.getD s0 (Int.toNat at6) (0:UInt8))]:List UInt8)≤room)) then
 next s0 (out4++([(List.getD s0 (Int.toNat at6) (0:UInt8))]:List UInt8)) (IntKind.wrap .i64 (strange5+(1:Int))) (IntKind.wrap .i64 (at6+(1:Int)))
 else none
 else none
 else
 bif (decide (List.length out4+List.length ([(List.getD s0 (Int.toNat at6) (0:UInt8))]:List UInt8)≤room)) then
 next s0 (out4++([(List.getD s0 (Int.toNat at6) (0:UInt8))]:List UInt8)) strange5 (IntKind.wrap .i64 (at6+(1:Int)))
 else none
 else none
 else
 k0 out4 strange5
def qgf (k0:List UInt8→Int→Option AV):Nat→List UInt8→List UInt8→Int→Int→Option AV
 | 0=>fun _ _ _ _=>none
 | n+1=>qfi k0 (qgf k0 n) n
def qdC (_n:Nat) (out4:List UInt8) (strange5:Int):Option AV :=
 qge out4 strange5
def qsa (n:Nat) (s0:List UInt8):Option AV :=
 qgf (qdC n) n s0 ([]:List UInt8) (0:Int) (0:Int)
def qwG (s2:List UInt8):Option AV:=some (.dat (.sl .byte) s2 none)
def qyN (_n:Nat) (s0:List UInt8):Option AV :=
 bif ((qlL s0)&&true) then
 qwG ((z144 s0).1)
 else none
def qsb (s2:List UInt8):Option AV:=some (.dat (.sl .byte) s2 none)
def qyO (_n:Nat) (w0:(List UInt8)×(Int×((List UInt8)×Unit))):Option AV :=
 bif (w0.2.1==(1:Int)) then
 bif ((quy w0.2.2.1)&&true) then
 qsb (z98 w0.2.2.1)
 else none
 else
 bif ((quz w0.2.2.1)&&true) then
 qsb (z99 w0.2.2.1)
 else none
def qjd (s2:List Int) (s3:Bool):Option AV:=some (.tup [(.dat (.sl (.int .i32)) s2 none),(.dat .bool s3 none)])
def qyP (_n:Nat) (s0:List UInt8):Option AV :=
 bif ((qnE s0)&&true) then
 bif (((z11 s0).2) != (0:Int)) then
 qjd ([]:List Int) false
 else
 both (
 both (
 bif ((qnp ((z11 s0).1))&&true) then
 bif ((qnq ((z11 s0).1))&&true) then
 bif ((qno (z53 ((z11 s0).1)) (z54 ((z11 s0).1)))&&true) then
 qjd (z52 (z53 ((z11 s0).1)) (z54 ((z11 s0).1))) true
 else none
 else none
 else none) (
 bif ((qnp ((z11 s0).1))&&true) then
 bif ((qnq ((z11 s0).1))&&true) then
 bif ((qno (z53 ((z11 s0).1)) (z54 ((z11 s0).1)))&&true) then
 qjd (z52 (z53 ((z11 s0).1)) (z54 ((z11 s0).1))) true
 else none
 else none
 else none)) (
 bif ((qnp ((z11 s0).1))&&true) then
 bif ((qnq ((z11 s0).1))&&true) then
 bif ((qno (z53 ((z11 s0).1)) (z54 ((z11 s0).1)))&&true) then
 qjd (z52 (z53 ((z11 s0).1)) (z54 ((z11 s0).1))) true
 else none
 else none
 else none)
 else none
def qeF (s0:Bool):Option AV:=some (.dat .bool s0 none)
def qCW (_n:Nat):Option AV :=
 bif ((qxT ([(61:UInt8),(63:UInt8),(117:UInt8),(116:UInt8),(102:UInt8),(45:UInt8),(56:UInt8),(63:UInt8),(81:UInt8),(63:UInt8),(61:UInt8),(67:UInt8),(51:UInt8),(61:UInt8),(65:UInt8),(57:UInt8),(63:UInt8),(61:UInt8)]:List UInt8))&&true) then
 bif ((qqM (2:Int) (1:Int) ([(233:UInt8)]:List UInt8))&&true) then
 bif (((List.length ((z19 ([(61:UInt8),(63:UInt8),(117:UInt8),(116:UInt8),(102:UInt8),(45:UInt8),(56:UInt8),(63:UInt8),(81:UInt8),(63:UInt8),(61:UInt8),(67:UInt8),(51:UInt8),(61:UInt8),(65:UInt8),(57:UInt8),(63:UInt8),(61:UInt8)]:List UInt8)).1):Nat):Int)==(1:Int)) then
 bif ((decide ((0:Int)≤(0:Int)))&&(decide ((0:Int) < (List.length ((z19 ([(61:UInt8),(63:UInt8),(117:UInt8),(116:UInt8),(102:UInt8),(45:UInt8),(56:UInt8),(63:UInt8),(81:UInt8),(63:UInt8),(61:UInt8),(67:UInt8),(51:UInt8),(61:UInt8),(65:UInt8),(57:UInt8),(63:UInt8),(61:UInt8)]:List UInt8)).1):Nat)))) then
 bif ((List.getD ((z19 ([(61:UInt8),(63:UInt8),(117:UInt8),(116:UInt8),(102:UInt8),(45:UInt8),(56:UInt8),(63:UInt8),(81:UInt8),(63:UInt8),(61:UInt8),(67:UInt8),(51:UInt8),(61:UInt8),(65:UInt8),(57:UInt8),(63:UInt8),(61:UInt8)]:List UInt8)).1) (Int.toNat (0:Int)) (0:Int))==(233:Int)) then
 bif ((z19 ([(61:UInt8),(63:UInt8),(117:UInt8),(116:UInt8),(102:UInt8),(45:UInt8),(56:UInt8),(63:UInt8),(81:UInt8),(63:UInt8),(61:UInt8),(67:UInt8),(51:UInt8),(61:UInt8),(65:UInt8),(57:UInt8),(63:UInt8),(61:UInt8)]:List UInt8)).2) then
 bif (((z15 (2:Int) (1:Int) ([(233:UInt8)]:List UInt8)).1)==([61,63,105,115,111,45,56,56,53,57,45,49,63,66,63,54,81,61,61,63,61]:List UInt8)) then
 bif (((z15 (2:Int) (1:Int) ([(233:UInt8)]:List UInt8)).2)==(0:Int)) then
 bif ((z17 (5:Int))==(12:Int)) then
 bif ((qzA ([(61:UInt8),(63:UInt8),(97:UInt8),(63:UInt8),(99:UInt8),(63:UInt8),(98:UInt8),(63:UInt8),(61:UInt8)]:List UInt8))&&true) then
 qeF (!(z14 ([(61:UInt8),(63:UInt8),(97:UInt8),(63:UInt8),(99:UInt8),(63:UInt8),(98:UInt8),(63:UInt8),(61:UInt8)]:List UInt8)))
 else none
 else
 qeF false
 else
 qeF false
 else
 qeF false
 else
 qeF false
 else
 qeF false
 else none
 else
 qeF false
 else none
 else none
def qgL (s4:Bool):Option AV:=some (.dat .bool s4 none)
def qeo (ret:Bool→Option AV) (k0:Option AV) (next:List UInt8→List UInt8→Int→Option AV) (_n:Nat) (a0:List UInt8) (b1:List UInt8) (i5:Int):Option AV :=
 bif (decide (i5 < ((List.length a0:Nat):Int))) then
 bif ((decide ((0:Int)≤i5))&&(decide (i5 < (List.length a0:Nat)))) then
 bif ((decide ((0:Int)≤i5))&&(decide (i5 < (List.length b1:Nat)))) then
 bif ((List.getD a0 (Int.toNat i5) (0:UInt8)) != (List.getD b1 (Int.toNat i5) (0:UInt8))) then
 ret false
 else
 next a0 b1 (IntKind.wrap .i64 (i5+(1:Int)))
 else none
 else none
 else
 k0
def qhU (ret:Bool→Option AV) (k0:Option AV):Nat→List UInt8→List UInt8→Int→Option AV
 | 0=>fun _ _ _=>none
 | n+1=>qeo ret k0 (qhU ret k0 n) n
def qhV (_n:Nat):Option AV :=
 qgL true
def qvi (n:Nat) (a0:List UInt8) (b1:List UInt8):Option AV :=
 bif (((List.length a0:Nat):Int) != ((List.length b1:Nat):Int)) then
 qgL false
 else
 qhU qgL (qhV n) n a0 b1 (0:Int)
def qsc (s2:List Int):Option AV:=some (.dat (.sl (.int .i64)) s2 (some (2,3)))
def qcp (k2:List UInt8→List Int→Int→Option AV) (next:List UInt8→List Int→Int→Int→Option AV) (_n:Nat) (s0:List UInt8) (out3:List Int) (i4:Int) (k5:Int):Option AV :=
 bif (decide ((0:Int)≤k5)) then
 bif ((decide ((0:Int)≤i4))&&(decide (i4 < (List.length s0:Nat)))) then
 bif (decide ((0:Int)≤k5)) then
 bif (decide (List.length out3+List.length ([(Int.tmod (IntKind.wrap .i64 ((UInt8.toNat (UInt8.ofNat (UInt8.toNat (List.getD s0 (Int.toNat i4) (0:UInt8)) / 2 ^ (min (Int.toNat k5) 8))):Nat):Int)) (2:Int))]:List Int)≤room)) then
 next s0 (out3++([(Int.tmod (IntKind.wrap .i64 ((UInt8.toNat (UInt8.ofNat (UInt8.toNat (List.getD s0 (Int.toNat i4) (0:UInt8)) / 2 ^ (min (Int.toNat k5) 8))):Nat):Int)) (2:Int))]:List Int)) i4 (IntKind.wrap .i64 (k5 - (1:Int)))
 else none
 else none
 else none
 else
 k2 s0 out3 i4
def qdD (k2:List UInt8→List Int→Int→Option AV):Nat→List UInt8→List Int→Int→Int→Option AV
 | 0=>fun _ _ _ _=>none
 | n+1=>qcp k2 (qdD k2 n) n
def qdE (_k0:List Int→Option AV) (next:List UInt8→List Int→Int→Option AV) (_n:Nat) (s0:List UInt8) (out3:List Int) (i4:Int):Option AV :=
 next s0 out3 (IntKind.wrap .i64 (i4+(1:Int)))
def qbz (k0:List Int→Option AV) (next:List UInt8→List Int→Int→Option AV) (n:Nat) (s0:List UInt8) (out3:List Int) (i4:Int):Option AV :=
 bif (decide (i4 < ((List.length s0:Nat):Int))) then
 qdD (qdE k0 next n) n s0 out3 i4 (7:Int)
 else
 k0 out3
def qgg (k0:List Int→Option AV):Nat→List UInt8→List Int→Int→Option AV
 | 0=>fun _ _ _=>none
 | n+1=>qbz k0 (qgg k0 n) n
def qdF (_n:Nat) (out3:List Int):Option AV :=
 qsc out3
def qmf (n:Nat) (s0:List UInt8):Option AV :=
 qgg (qdF n) n s0 ([]:List Int) (0:Int)
def qcR (s2:UInt8):Option AV:=some (.dat .byte s2 none)
def qsd (_n:Nat) (n0:Int):Option AV :=
 bif (decide ((Int.tmod (IntKind.wrap .i64 ((Int.tmod n0 (64:Int))+(64:Int))) (64:Int)) < (26:Int))) then
 qcR (UInt8.ofNat (Int.toNat (IntKind.wrap .u8 (IntKind.wrap .i64 ((65:Int)+(Int.tmod (IntKind.wrap .i64 ((Int.tmod n0 (64:Int))+(64:Int))) (64:Int)))))))
 else
 bif (decide ((Int.tmod (IntKind.wrap .i64 ((Int.tmod n0 (64:Int))+(64:Int))) (64:Int)) < (52:Int))) then
 qcR (UInt8.ofNat (Int.toNat (IntKind.wrap .u8 (IntKind.wrap .i64 ((IntKind.wrap .i64 ((97:Int)+(Int.tmod (IntKind.wrap .i64 ((Int.tmod n0 (64:Int))+(64:Int))) (64:Int)))) - (26:Int))))))
 else
 bif (decide ((Int.tmod (IntKind.wrap .i64 ((Int.tmod n0 (64:Int))+(64:Int))) (64:Int)) < (62:Int))) then
 qcR (UInt8.ofNat (Int.toNat (IntKind.wrap .u8 (IntKind.wrap .i64 ((IntKind.wrap .i64 ((48:Int)+(Int.tmod (IntKind.wrap .i64 ((Int.tmod n0 (64:Int))+(64:Int))) (64:Int)))) - (52:Int))))))
 else
 bif ((Int.tmod (IntKind.wrap .i64 ((Int.tmod n0 (64:Int))+(64:Int))) (64:Int))==(62:Int)) then
 qcR (43:UInt8)
 else
 qcR (47:UInt8)
def qse (s2:Int):Option AV:=some (.dat (.int .i64) s2 none)
def qcq (k0:Int→Option AV) (next:List Int→Int→Int→Option AV) (_n:Nat) (l0:List Int) (n3:Int) (i4:Int):Option AV :=
 bif (decide (i4 < ((List.length l0:Nat):Int))) then
 bif ((decide ((0:Int)≤i4))&&(decide (i4 < (List.length l0:Nat)))) then
 next l0 (IntKind.wrap .i64 ((IntKind.wrap .i64 ((2:Int)*n3))+(List.getD l0 (Int.toNat i4) (0:Int)))) (IntKind.wrap .i64 (i4+(1:Int)))
 else none
 else
 k0 n3
def qgh (k0:Int→Option AV):Nat→List Int→Int→Int→Option AV
 | 0=>fun _ _ _=>none
 | n+1=>qcq k0 (qgh k0 n) n
def qdG (_n:Nat) (n3:Int):Option AV :=
 qse n3
def qmg (n:Nat) (l0:List Int):Option AV :=
 qgh (qdG n) n l0 (0:Int) (0:Int)
def qwH (s2:List UInt8):Option AV:=some (.dat (.sl .byte) s2 (some (2,5)))
def qhW (k0:List Int→Option AV) (next:List Int→Option AV) (_n:Nat) (l3:List Int):Option AV :=
 bif ((Int.tmod ((List.length l3:Nat):Int) (6:Int)) != (0:Int)) then
 bif (decide (List.length l3+List.length ([(0:Int)]:List Int)≤room)) then
 next (l3++([(0:Int)]:List Int))
 else none
 else
 k0 l3
def qkA (k0:List Int→Option AV):Nat→List Int→Option AV
 | 0=>fun _=>none
 | n+1=>qhW k0 (qkA k0 n) n
def qep (k2:List UInt8→Option AV) (next:List Int→List UInt8→Int→Option AV) (_n:Nat) (l3:List Int) (out4:List UInt8) (i5:Int):Option AV :=
 bif (decide (i5 < ((List.length l3:Nat):Int))) then
 bif (((decide ((0:Int)≤i5))&&(decide (i5≤(IntKind.wrap .i64 (i5+(6:Int))))))&&(decide ((IntKind.wrap .i64 (i5+(6:Int)))≤((List.length l3:Nat):Int)))) then
 bif ((qgA (List.drop (Int.toNat i5) (List.take (Int.toNat (IntKind.wrap .i64 (i5+(6:Int)))) l3)))&&true) then
 bif (decide (List.length out4+List.length ([(z135 (z136 (List.drop (Int.toNat i5) (List.take (Int.toNat (IntKind.wrap .i64 (i5+(6:Int)))) l3))))]:List UInt8)≤room)) then
 next l3 (out4++([(z135 (z136 (List.drop (Int.toNat i5) (List.take (Int.toNat (IntKind.wrap .i64 (i5+(6:Int)))) l3))))]:List UInt8)) (IntKind.wrap .i64 (i5+(6:Int)))
 else none
 else none
 else none
 else
 k2 out4
def qkB (k2:List UInt8→Option AV):Nat→List Int→List UInt8→Int→Option AV
 | 0=>fun _ _ _=>none
 | n+1=>qep k2 (qkB k2 n) n
def qgi (_n:Nat) (out4:List UInt8):Option AV :=
 qwH out4
def qbA (n:Nat) (l3:List Int):Option AV :=
 qkB (qgi n) n l3 ([]:List UInt8) (0:Int)
def qvj (n:Nat) (s0:List UInt8):Option AV :=
 bif ((qiQ s0)&&true) then
 qkA (qbA n) n (z134 s0)
 else none
def qwI (s2:List UInt8):Option AV:=some (.dat (.sl .byte) s2 (some (2,5)))
def qhX (k0:List UInt8→Option AV) (next:List UInt8→Option AV) (_n:Nat) (out3:List UInt8):Option AV :=
 bif ((Int.tmod ((List.length out3:Nat):Int) (4:Int)) != (0:Int)) then
 bif (decide (List.length out3+List.length ([(61:UInt8)]:List UInt8)≤room)) then
 next (out3++([(61:UInt8)]:List UInt8))
 else none
 else
 k0 out3
def qkC (k0:List UInt8→Option AV):Nat→List UInt8→Option AV
 | 0=>fun _=>none
 | n+1=>qhX k0 (qkC k0 n) n
def qeq (_n:Nat) (out3:List UInt8):Option AV :=
 qwI out3
def qvk (n:Nat) (s0:List UInt8):Option AV :=
 bif ((qqL s0)&&true) then
 qkC (qeq n) n (z90 s0)
 else none
def qer (s4:Bool):Option AV:=some (.dat .bool s4 none)
def qcr (ret:Bool→Option AV) (k0:Option AV) (next:List UInt8→UInt8→Int→Option AV) (_n:Nat) (s0:List UInt8) (c1:UInt8) (i5:Int):Option AV :=
 bif (decide (i5 < ((List.length s0:Nat):Int))) then
 bif ((decide ((0:Int)≤i5))&&(decide (i5 < (List.length s0:Nat)))) then
 bif ((List.getD s0 (Int.toNat i5) (0:UInt8))==c1) then
 ret true
 else
 next s0 c1 (IntKind.wrap .i64 (i5+(1:Int)))
 else none
 else
 k0
def qdH (ret:Bool→Option AV) (k0:Option AV):Nat→List UInt8→UInt8→Int→Option AV
 | 0=>fun _ _ _=>none
 | n+1=>qcr ret k0 (qdH ret k0 n) n
def qdI (_n:Nat):Option AV :=
 qer false
def qje (n:Nat) (s0:List UInt8) (c1:UInt8):Option AV :=
 qdH qer (qdI n) n s0 c1 (0:Int)
def qwJ (s4:Bool):Option AV:=some (.dat .bool s4 none)
def qCX (_n:Nat) (c0:UInt8) (kinds1:Int):Option AV :=
 qwJ ((bits .and .i64 (z128 c0) kinds1) != (0:Int))
def qkD (s2:UInt8):Option AV:=some (.dat .byte s2 none)
def qsf (_n:Nat) (n0:Int):Option AV :=
 bif (decide ((Int.tmod (IntKind.wrap .i64 ((Int.tmod n0 (16:Int))+(16:Int))) (16:Int)) < (10:Int))) then
 qkD (UInt8.ofNat (Int.toNat (IntKind.wrap .u8 (IntKind.wrap .i64 ((48:Int)+(Int.tmod (IntKind.wrap .i64 ((Int.tmod n0 (16:Int))+(16:Int))) (16:Int)))))))
 else
 qkD (UInt8.ofNat (Int.toNat (IntKind.wrap .u8 (IntKind.wrap .i64 ((IntKind.wrap .i64 ((65:Int)+(Int.tmod (IntKind.wrap .i64 ((Int.tmod n0 (16:Int))+(16:Int))) (16:Int)))) - (10:Int))))))
def qsg (s6:List UInt8):Option AV:=some (.dat (.sl .byte) s6 (some (6,5)))
def qsh (_n:Nat) (b0:List UInt8) (sign1:UInt8) (c2:UInt8):Option AV :=
 bif (decide (List.length ([]:List UInt8)+List.length b0≤room)) then
 bif ((qcA (IntKind.wrap .i64 (Int.tdiv (IntKind.wrap .i64 ((UInt8.toNat c2:Nat):Int)) (16:Int))))&&true) then
 bif ((qcA (Int.tmod (IntKind.wrap .i64 ((UInt8.toNat c2:Nat):Int)) (16:Int)))&&true) then
 bif (decide (List.length (([]:List UInt8)++b0)+List.length ([sign1,(z184 (IntKind.wrap .i64 (Int.tdiv (IntKind.wrap .i64 ((UInt8.toNat c2:Nat):Int)) (16:Int)))),(z184 (Int.tmod (IntKind.wrap .i64 ((UInt8.toNat c2:Nat):Int)) (16:Int)))]:List UInt8)≤room)) then
 qsg ((([]:List UInt8)++b0)++([sign1,(z184 (IntKind.wrap .i64 (Int.tdiv (IntKind.wrap .i64 ((UInt8.toNat c2:Nat):Int)) (16:Int)))),(z184 (Int.tmod (IntKind.wrap .i64 ((UInt8.toNat c2:Nat):Int)) (16:Int)))]:List UInt8))
 else none
 else none
 else none
 else none
def qmh (s2:List UInt8):Option AV:=some (.dat (.sl .byte) s2 (some (2,5)))
def qyQ (_n:Nat) (c0:UInt8):Option AV :=
 bif (c0==(32:UInt8)) then
 qmh ([(95:UInt8)]:List UInt8)
 else
 bif (z82 c0 (128:Int)) then
 qmh ([c0]:List UInt8)
 else
 bif ((qlH ([]:List UInt8) (61:UInt8) c0)&&true) then
 qmh (z137 ([]:List UInt8) (61:UInt8) c0)
 else none
def qwK (s2:List UInt8):Option AV:=some (.dat (.sl .byte) s2 (some (2,5)))
def qes (k0:List UInt8→Option AV) (next:List UInt8→List UInt8→Int→Option AV) (_n:Nat) (s0:List UInt8) (out3:List UInt8) (i4:Int):Option AV :=
 bif (decide (i4 < ((List.length s0:Nat):Int))) then
 bif ((decide ((0:Int)≤i4))&&(decide (i4 < (List.length s0:Nat)))) then
 bif (decide (List.length out3+List.length (z91 (List.getD s0 (Int.toNat i4) (0:UInt8)))≤room)) then
 next s0 (out3++(z91 (List.getD s0 (Int.toNat i4) (0:UInt8)))) (IntKind.wrap .i64 (i4+(1:Int)))
 else none
 else none
 else
 k0 out3
def qkE (k0:List UInt8→Option AV):Nat→List UInt8→List UInt8→Int→Option AV
 | 0=>fun _ _ _=>none
 | n+1=>qes k0 (qkE k0 n) n
def qet (_n:Nat) (out3:List UInt8):Option AV :=
 qwK out3
def qvl (n:Nat) (s0:List UInt8):Option AV :=
 qkE (qet n) n s0 ([]:List UInt8) (0:Int)
def qgj (s2:List (List UInt8)):Option AV:=some (.dat (.sl .str) s2 (some (2,9)))
def qyR (_n:Nat) (n0:Int):Option AV :=
 bif (n0==(1:Int)) then
 qgj ([([117,115,45,97,115,99,105,105]:List UInt8),([97,115,99,105,105]:List UInt8),([97,110,115,105,95,120,51,46,52,45,49,57,54,56]:List UInt8),([105,115,111,54,52,54,45,117,115]:List UInt8)]:List (List UInt8))
 else
 bif (n0==(2:Int)) then
 qgj ([([105,115,111,45,56,56,53,57,45,49]:List UInt8),([105,115,111,95,56,56,53,57,45,49]:List UInt8),([108,97,116,105,110,49]:List UInt8),([108,49]:List UInt8)]:List (List UInt8))
 else
 bif (n0==(3:Int)) then
 qgj ([([105,115,111,45,56,56,53,57,45,49,53]:List UInt8),([105,115,111,95,56,56,53,57,45,49,53]:List UInt8),([108,97,116,105,110,45,57]:List UInt8)]:List (List UInt8))
 else
 bif (n0==(4:Int)) then
 qgj ([([119,105,110,100,111,119,115,45,49,50,53,50]:List UInt8),([99,112,49,50,53,50]:List UInt8)]:List (List UInt8))
 else
 bif (n0==(5:Int)) then
 qgj ([([117,116,102,45,56]:List UInt8),([117,116,102,56]:List UInt8)]:List (List UInt8))
 else
 qgj ([]:List (List UInt8))
def qsi (s2:List UInt8):Option AV:=some (.dat .str s2 none)
def qyS (_n:Nat) (n0:Int):Option AV :=
 bif (((List.length (z92 n0):Nat):Int)==(0:Int)) then
 qsi ([]:List UInt8)
 else
 bif ((decide ((0:Int)≤(0:Int)))&&(decide ((0:Int) < (List.length (z92 n0):Nat)))) then
 qsi (List.getD (z92 n0) (Int.toNat (0:Int)) ([]:List UInt8))
 else none
def qaf (s6:List UInt8) (s7:Int):Option AV:=some (.tup [(.dat (.sl .byte) s6 none),(.dat (.int .i64) s7 none)])
def qyT (_n:Nat) (charset0:Int) (code1:Int) (s2:List UInt8):Option AV :=
 bif (decide (charset0 < (1:Int))) then
 qaf ([]:List UInt8) (10:Int)
 else
 bif (decide ((5:Int) < charset0)) then
 qaf ([]:List UInt8) (10:Int)
 else
 bif (code1 != (1:Int)) then
 bif (code1 != (2:Int)) then
 qaf ([]:List UInt8) (3:Int)
 else
 bif (((List.length s2:Nat):Int)==(0:Int)) then
 qaf ([]:List UInt8) (3:Int)
 else
 bif ((qnm s2)&&true) then
 bif (code1==(2:Int)) then
 bif ((qnl s2)&&true) then
 bif (decide (List.length ([61,63]:List UInt8)+List.length (z51 charset0)≤9223372036854775807)) then
 bif (decide (List.length (([61,63]:List UInt8)++(z51 charset0))+List.length ([63,81,63]:List UInt8)≤9223372036854775807)) then
 bif (decide (List.length ((([61,63]:List UInt8)++(z51 charset0))++([63,81,63]:List UInt8))≤room)) then
 bif (decide (List.length ((([61,63]:List UInt8)++(z51 charset0))++([63,81,63]:List UInt8))+List.length (z50 s2)≤room)) then
 bif (decide (List.length (((([61,63]:List UInt8)++(z51 charset0))++([63,81,63]:List UInt8))++(z50 s2))+List.length ([(63:UInt8),(61:UInt8)]:List UInt8)≤room)) then
 bif (decide ((75:Int) < ((List.length ((((([61,63]:List UInt8)++(z51 charset0))++([63,81,63]:List UInt8))++(z50 s2))++([(63:UInt8),(61:UInt8)]:List UInt8)):Nat):Int))) then
 qaf ([]:List UInt8) (12:Int)
 else
 qaf ((((([61,63]:List UInt8)++(z51 charset0))++([63,81,63]:List UInt8))++(z50 s2))++([(63:UInt8),(61:UInt8)]:List UInt8)) (0:Int)
 else none
 else none
 else none
 else none
 else none
 else none
 else
 bif (decide (List.length ([61,63]:List UInt8)+List.length (z51 charset0)≤9223372036854775807)) then
 bif (decide (List.length (([61,63]:List UInt8)++(z51 charset0))+List.length ([63,66,63]:List UInt8)≤9223372036854775807)) then
 bif (decide (List.length ((([61,63]:List UInt8)++(z51 charset0))++([63,66,63]:List UInt8))≤room)) then
 bif (decide (List.length ((([61,63]:List UInt8)++(z51 charset0))++([63,66,63]:List UInt8))+List.length (z49 s2)≤room)) then
 bif (decide (List.length (((([61,63]:List UInt8)++(z51 charset0))++([63,66,63]:List UInt8))++(z49 s2))+List.length ([(63:UInt8),(61:UInt8)]:List UInt8)≤room)) then
 bif (decide ((75:Int) < ((List.length ((((([61,63]:List UInt8)++(z51 charset0))++([63,66,63]:List UInt8))++(z49 s2))++([(63:UInt8),(61:UInt8)]:List UInt8)):Nat):Int))) then
 qaf ([]:List UInt8) (12:Int)
 else
 qaf ((((([61,63]:List UInt8)++(z51 charset0))++([63,66,63]:List UInt8))++(z49 s2))++([(63:UInt8),(61:UInt8)]:List UInt8)) (0:Int)
 else none
 else none
 else none
 else none
 else none
 else none
 else
 bif (((List.length s2:Nat):Int)==(0:Int)) then
 qaf ([]:List UInt8) (3:Int)
 else
 bif ((qnm s2)&&true) then
 bif (code1==(2:Int)) then
 bif ((qnl s2)&&true) then
 bif (decide (List.length ([61,63]:List UInt8)+List.length (z51 charset0)≤9223372036854775807)) then
 bif (decide (List.length (([61,63]:List UInt8)++(z51 charset0))+List.length ([63,81,63]:List UInt8)≤9223372036854775807)) then
 bif (decide (List.length ((([61,63]:List UInt8)++(z51 charset0))++([63,81,63]:List UInt8))≤room)) then
 bif (decide (List.length ((([61,63]:List UInt8)++(z51 charset0))++([63,81,63]:List UInt8))+List.length (z50 s2)≤room)) then
 bif (decide (List.length (((([61,63]:List UInt8)++(z51 charset0))++([63,81,63]:List UInt8))++(z50 s2))+List.length ([(63:UInt8),(61:UInt8)]:List UInt8)≤room)) then
 bif (decide ((75:Int) < ((List.length ((((([61,63]:List UInt8)++(z51 charset0))++([63,81,63]:List UInt8))++(z50 s2))++([(63:UInt8),(61:UInt8)]:List UInt8)):Nat):Int))) then
 qaf ([]:List UInt8) (12:Int)
 else
 qaf ((((([61,63]:List UInt8)++(z51 charset0))++([63,81,63]:List UInt8))++(z50 s2))++([(63:UInt8),(61:UInt8)]:List UInt8)) (0:Int)
 else none
 else none
 else none
 else none
 else none
 else none
 else
 bif (decide (List.length ([61,63]:List UInt8)+List.length (z51 charset0)≤9223372036854775807)) then
 bif (decide (List.length (([61,63]:List UInt8)++(z51 charset0))+List.length ([63,66,63]:List UInt8)≤9223372036854775807)) then
 bif (decide (List.length ((([61,63]:List UInt8)++(z51 charset0))++([63,66,63]:List UInt8))≤room)) then
 bif (decide (List.length ((([61,63]:List UInt8)++(z51 charset0))++([63,66,63]:List UInt8))+List.length (z49 s2)≤room)) then
 bif (decide (List.length (((([61,63]:List UInt8)++(z51 charset0))++([63,66,63]:List UInt8))++(z49 s2))+List.length ([(63:UInt8),(61:UInt8)]:List UInt8)≤room)) then
 bif (decide ((75:Int) < ((List.length ((((([61,63]:List UInt8)++(z51 charset0))++([63,66,63]:List UInt8))++(z49 s2))++([(63:UInt8),(61:UInt8)]:List UInt8)):Nat):Int))) then
 qaf ([]:List UInt8) (12:Int)
 else
 qaf ((((([61,63]:List UInt8)++(z51 charset0))++([63,66,63]:List UInt8))++(z49 s2))++([(63:UInt8),(61:UInt8)]:List UInt8)) (0:Int)
 else none
 else none
 else none
 else none
 else none
 else none
def qmi (s2:Int):Option AV:=some (.dat (.int .i64) s2 none)
def qyU (_n:Nat) (charset0:Int):Option AV :=
 bif (decide (charset0 < (1:Int))) then
 qmi (0:Int)
 else
 bif (decide ((5:Int) < charset0)) then
 qmi (0:Int)
 else
 qmi (IntKind.wrap .i64 ((7:Int)+((List.length (z51 charset0):Nat):Int)))
def qny (s6:Bool):Option AV:=some (.dat .bool s6 none)
def z4_sh (_n:Nat) (charset0:Int) (code1:Int) (s2:List UInt8):Option AV :=
 bif (decide ((500:Int) < ((List.length s2:Nat):Int))) then
 qny z10
 else
 bif ((qqM charset0 code1 s2)&&true) then
 bif ((quB charset0 code1 s2)&&true) then
 bif ((qvW ((z15 charset0 code1 s2).1) ((z16 charset0 code1 s2).1))&&true) then
 bif (z13 ((z15 charset0 code1 s2).1) ((z16 charset0 code1 s2).1)) then
 bif (((z15 charset0 code1 s2).2)==((z16 charset0 code1 s2).2)) then
 bif ((z17 charset0)==(z18 charset0)) then
 qny z10
 else
 qny false
 else
 qny false
 else
 qny false
 else none
 else none
 else none
end
end Go.Av
