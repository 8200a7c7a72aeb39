import Derived.Test.YtopepdfipgfakaaGreatDoorEfM
import Derived.Test.YtopepdfipgfakaaGreatDoorAvE
namespace Go.Av
set_option linter.unusedSimpArgs false
set_option linter.unusedVariables false
noncomputable section
def qrS (s4:Int):Option AV:=some (.dat (.int .i64) s4 none)
def qxm (_n:Nat) (b0:List UInt8) (c1:UInt8):Option AV :=
 qrS (z151 b0 c1)
def qrT (s4:Bool):Option AV:=some (.dat .bool s4 none)
def qxn (_n:Nat) (a0:List UInt8) (b1:List UInt8):Option AV :=
 qrT (a0==b1)
def qfZ (s4:Int):Option AV:=some (.dat (.int .i64) s4 none)
def qmx (ret:Int→Option AV) (next:List UInt8→List UInt8→Int→Option AV) (_n:Nat) (s0:List UInt8) (sep1:List UInt8) (n5:Int):Option AV :=
 bif ((qhb s0 sep1)&&true) then
 bif ((z125 s0 sep1)==(-1:Int)) then
 ret n5
 else
 bif (((decide ((0:Int)≤(IntKind.wrap .i64 ((z125 s0 sep1)+((List.length sep1:Nat):Int)))))&&(decide ((IntKind.wrap .i64 ((z125 s0 sep1)+((List.length sep1:Nat):Int)))≤((List.length s0:Nat):Int))))&&(decide (((List.length s0:Nat):Int)≤((List.length s0:Nat):Int)))) then
 next (List.drop (Int.toNat (IntKind.wrap .i64 ((z125 s0 sep1)+((List.length sep1:Nat):Int)))) (List.take (Int.toNat ((List.length s0:Nat):Int)) s0)) sep1 (IntKind.wrap .i64 (n5+(1:Int)))
 else none
 else none
def qgO (ret:Int→Option AV):Nat→List UInt8→List UInt8→Int→Option AV
 | 0=>fun _ _ _=>none
 | n+1=>qmx ret (qgO ret n) n
def qrU (n:Nat) (s0:List UInt8) (sep1:List UInt8):Option AV :=
 bif (((List.length sep1:Nat):Int)==(0:Int)) then
 bif ((qxK s0)&&true) then
 qfZ (IntKind.wrap .i64 ((z173 s0)+(1:Int)))
 else none
 else
 bif (((List.length sep1:Nat):Int)==(1:Int)) then
 bif ((decide ((0:Int)≤(0:Int)))&&(decide ((0:Int) < (List.length sep1:Nat)))) then
 qfZ (z174 s0 (List.getD sep1 (Int.toNat (0:Int)) (0:UInt8)))
 else none
 else
 qgO qfZ n s0 sep1 (0:Int)
def qjt (s8:List (List UInt8)):Option AV:=some (.dat (.sl (.sl .byte)) s8 none)
def qcm (k0:List UInt8→List (List UInt8)→Int→Option AV) (next:List UInt8→List UInt8→Int→Int→List (List UInt8)→Int→Option AV) (_n:Nat) (s0:List UInt8) (sep1:List UInt8) (sepSave2:Int) (n3:Int) (a9:List (List UInt8)) (i10:Int):Option AV :=
 bif (decide (i10 < n3)) then
 bif ((qhb s0 sep1)&&true) then
 bif (decide ((z125 s0 sep1) < (0:Int))) then
 k0 s0 a9 i10
 else
 bif ((((decide ((0:Int)≤((0:Nat):Int)))&&(decide (((0:Nat):Int)≤(IntKind.wrap .i64 ((z125 s0 sep1)+sepSave2)))))&&(decide ((IntKind.wrap .i64 ((z125 s0 sep1)+sepSave2))≤(IntKind.wrap .i64 ((z125 s0 sep1)+sepSave2)))))&&(decide ((IntKind.wrap .i64 ((z125 s0 sep1)+sepSave2))≤((List.length s0:Nat):Int)))) then
 bif ((decide ((0:Int)≤i10))&&(decide (i10 < (List.length a9:Nat)))) then
 bif (((decide ((0:Int)≤(IntKind.wrap .i64 ((z125 s0 sep1)+((List.length sep1:Nat):Int)))))&&(decide ((IntKind.wrap .i64 ((z125 s0 sep1)+((List.length sep1:Nat):Int)))≤((List.length s0:Nat):Int))))&&(decide (((List.length s0:Nat):Int)≤((List.length s0:Nat):Int)))) then
 next (List.drop (Int.toNat (IntKind.wrap .i64 ((z125 s0 sep1)+((List.length sep1:Nat):Int)))) (List.take (Int.toNat ((List.length s0:Nat):Int)) s0)) sep1 sepSave2 n3 (List.set a9 (Int.toNat i10) (List.drop (Int.toNat ((0:Nat):Int)) (List.take (Int.toNat (IntKind.wrap .i64 ((z125 s0 sep1)+sepSave2))) s0))) (IntKind.wrap .i64 (i10+(1:Int)))
 else none
 else none
 else none
 else none
 else
 k0 s0 a9 i10
def qcF (k0:List UInt8→List (List UInt8)→Int→Option AV):Nat→List UInt8→List UInt8→Int→Int→List (List UInt8)→Int→Option AV
 | 0=>fun _ _ _ _ _ _=>none
 | n+1=>qcm k0 (qcF k0 n) n
def qae (_n:Nat) (s0:List UInt8) (a9:List (List UInt8)) (i10:Int):Option AV :=
 bif ((decide ((0:Int)≤i10))&&(decide (i10 < (List.length a9:Nat)))) then
 bif (((decide ((0:Int)≤((0:Nat):Int)))&&(decide (((0:Nat):Int)≤(IntKind.wrap .i64 (i10+(1:Int))))))&&(decide ((IntKind.wrap .i64 (i10+(1:Int)))≤((List.length (List.set a9 (Int.toNat i10) s0):Nat):Int)))) then
 qjt (List.drop (Int.toNat ((0:Nat):Int)) (List.take (Int.toNat (IntKind.wrap .i64 (i10+(1:Int)))) (List.set a9 (Int.toNat i10) s0)))
 else none
 else none
def qwd (n:Nat) (s0:List UInt8) (sep1:List UInt8) (sepSave2:Int) (n3:Int):Option AV :=
 bif (n3==(0:Int)) then
 qjt ([]:List (List UInt8))
 else
 bif (((List.length sep1:Nat):Int)==(0:Int)) then
 bif ((qxL s0 n3)&&true) then
 qjt (z123 s0 n3)
 else none
 else
 bif (decide (n3 < (0:Int))) then
 bif ((qha s0 sep1)&&true) then
 bif (((decide ((0:Int)≤(bif (decide ((IntKind.wrap .i64 (((List.length s0:Nat):Int)+(1:Int))) < (IntKind.wrap .i64 ((z124 s0 sep1)+(1:Int))))) then (IntKind.wrap .i64 (((List.length s0:Nat):Int)+(1:Int))) else (IntKind.wrap .i64 ((z124 s0 sep1)+(1:Int))))))&&(decide ((bif (decide ((IntKind.wrap .i64 (((List.length s0:Nat):Int)+(1:Int))) < (IntKind.wrap .i64 ((z124 s0 sep1)+(1:Int))))) then (IntKind.wrap .i64 (((List.length s0:Nat):Int)+(1:Int))) else (IntKind.wrap .i64 ((z124 s0 sep1)+(1:Int))))≤(bif (decide ((IntKind.wrap .i64 (((List.length s0:Nat):Int)+(1:Int))) < (IntKind.wrap .i64 ((z124 s0 sep1)+(1:Int))))) then (IntKind.wrap .i64 (((List.length s0:Nat):Int)+(1:Int))) else (IntKind.wrap .i64 ((z124 s0 sep1)+(1:Int)))))))&&(decide ((bif (decide ((IntKind.wrap .i64 (((List.length s0:Nat):Int)+(1:Int))) < (IntKind.wrap .i64 ((z124 s0 sep1)+(1:Int))))) then (IntKind.wrap .i64 (((List.length s0:Nat):Int)+(1:Int))) else (IntKind.wrap .i64 ((z124 s0 sep1)+(1:Int))))≤(room:Int)))) then
 qcF (qae n) n s0 sep1 sepSave2 (IntKind.wrap .i64 ((bif (decide ((IntKind.wrap .i64 (((List.length s0:Nat):Int)+(1:Int))) < (IntKind.wrap .i64 ((z124 s0 sep1)+(1:Int))))) then (IntKind.wrap .i64 (((List.length s0:Nat):Int)+(1:Int))) else (IntKind.wrap .i64 ((z124 s0 sep1)+(1:Int)))) - (1:Int))) (List.replicate (Int.toNat (bif (decide ((IntKind.wrap .i64 (((List.length s0:Nat):Int)+(1:Int))) < (IntKind.wrap .i64 ((z124 s0 sep1)+(1:Int))))) then (IntKind.wrap .i64 (((List.length s0:Nat):Int)+(1:Int))) else (IntKind.wrap .i64 ((z124 s0 sep1)+(1:Int))))) ([]:List UInt8)) (0:Int)
 else none
 else none
 else
 bif (((decide ((0:Int)≤(bif (decide ((IntKind.wrap .i64 (((List.length s0:Nat):Int)+(1:Int))) < n3)) then (IntKind.wrap .i64 (((List.length s0:Nat):Int)+(1:Int))) else n3)))&&(decide ((bif (decide ((IntKind.wrap .i64 (((List.length s0:Nat):Int)+(1:Int))) < n3)) then (IntKind.wrap .i64 (((List.length s0:Nat):Int)+(1:Int))) else n3)≤(bif (decide ((IntKind.wrap .i64 (((List.length s0:Nat):Int)+(1:Int))) < n3)) then (IntKind.wrap .i64 (((List.length s0:Nat):Int)+(1:Int))) else n3))))&&(decide ((bif (decide ((IntKind.wrap .i64 (((List.length s0:Nat):Int)+(1:Int))) < n3)) then (IntKind.wrap .i64 (((List.length s0:Nat):Int)+(1:Int))) else n3)≤(room:Int)))) then
 qcF (qae n) n s0 sep1 sepSave2 (IntKind.wrap .i64 ((bif (decide ((IntKind.wrap .i64 (((List.length s0:Nat):Int)+(1:Int))) < n3)) then (IntKind.wrap .i64 (((List.length s0:Nat):Int)+(1:Int))) else n3) - (1:Int))) (List.replicate (Int.toNat (bif (decide ((IntKind.wrap .i64 (((List.length s0:Nat):Int)+(1:Int))) < n3)) then (IntKind.wrap .i64 (((List.length s0:Nat):Int)+(1:Int))) else n3)) ([]:List UInt8)) (0:Int)
 else none
def qxo (s4:List (List UInt8)):Option AV:=some (.dat (.sl (.sl .byte)) s4 none)
def qzs (_n:Nat) (s0:List UInt8) (sep1:List UInt8):Option AV :=
 bif ((qog s0 sep1 (0:Int) (-1:Int))&&true) then
 qxo (z78 s0 sep1 (0:Int) (-1:Int))
 else none
def qif (s2:UInt8):Option AV:=some (.dat .byte s2 none)
def qrV (_n:Nat) (c0:UInt8):Option AV :=
 bif (decide ((65:UInt8)≤c0)) then
 bif (decide (c0≤(90:UInt8))) then
 qif (c0 ||| (32:UInt8))
 else
 qif c0
 else
 qif c0
def qxp (s2:List UInt8):Option AV:=some (.dat (.sl .byte) s2 (some (2,5)))
def qed (k0:List UInt8→Option AV) (next:List UInt8→Int→Int→Option AV) (_n:Nat) (out3:List UInt8) (s9:Int) (s10:Int):Option AV :=
 bif (decide (s10 < s9)) then
 bif ((decide ((0:Int)≤s10))&&(decide (s10 < (List.length out3:Nat)))) then
 bif ((decide ((0:Int)≤s10))&&(decide (s10 < (List.length out3:Nat)))) then
 next (List.set out3 (Int.toNat s10) (z126 (List.getD out3 (Int.toNat s10) (0:UInt8)))) s9 (IntKind.wrap .i64 (s10+(1:Int)))
 else none
 else none
 else
 k0 out3
def qig (k0:List UInt8→Option AV):Nat→List UInt8→Int→Int→Option AV
 | 0=>fun _ _ _=>none
 | n+1=>qed k0 (qig k0 n) n
def qga (_n:Nat) (out3:List UInt8):Option AV :=
 qxp out3
def qwe (n:Nat) (s0:List UInt8):Option AV :=
 bif ((qcY s0)&&true) then
 qig (qga n) n (z38 s0) ((List.length (z38 s0):Nat):Int) (0:Int)
 else none
def qju (s2:Int):Option AV:=some (.dat (.int .i64) s2 none)
def qzt (_n:Nat) (s0:List UInt8):Option AV :=
 bif ((qoi s0)&&true) then
 bif ((z79 s0)==([98]:List UInt8)) then
 qju (1:Int)
 else
 bif ((z79 s0)==([113]:List UInt8)) then
 qju (2:Int)
 else
 qju (0:Int)
 else none
def qg (s2:Int):Option AV:=some (.dat (.int .i64) s2 none)
def qrW (_n:Nat) (c0:UInt8):Option AV :=
 bif (decide (c0 < (32:UInt8))) then
 bif (c0==(32:UInt8)) then
 qg (bits .or .i64 (bits .or .i64 (0:Int) (1:Int)) (2:Int))
 else
 bif (c0==(9:UInt8)) then
 qg (bits .or .i64 (bits .or .i64 (0:Int) (1:Int)) (2:Int))
 else
 bif (decide ((48:UInt8)≤c0)) then
 bif (decide (c0≤(57:UInt8))) then
 qg (bits .or .i64 (bits .or .i64 (0:Int) (1:Int)) (648:Int))
 else
 bif (decide ((65:UInt8)≤c0)) then
 bif (decide (c0≤(90:UInt8))) then
 bif (decide (c0≤(90:UInt8))) then
 qg (bits .or .i64 (bits .or .i64 (0:Int) (1:Int)) (656:Int))
 else
 qg (bits .or .i64 (0:Int) (1:Int))
 else
 bif (decide ((97:UInt8)≤c0)) then
 bif (decide (c0≤(122:UInt8))) then
 qg (bits .or .i64 (bits .or .i64 (0:Int) (1:Int)) (656:Int))
 else
 qg (bits .or .i64 (0:Int) (1:Int))
 else
 qg (bits .or .i64 (0:Int) (1:Int))
 else
 bif (decide ((97:UInt8)≤c0)) then
 bif (decide (c0≤(122:UInt8))) then
 qg (bits .or .i64 (bits .or .i64 (0:Int) (1:Int)) (656:Int))
 else
 qg (bits .or .i64 (0:Int) (1:Int))
 else
 qg (bits .or .i64 (0:Int) (1:Int))
 else
 bif (decide ((65:UInt8)≤c0)) then
 bif (decide (c0≤(90:UInt8))) then
 bif (decide (c0≤(90:UInt8))) then
 qg (bits .or .i64 (bits .or .i64 (0:Int) (1:Int)) (656:Int))
 else
 qg (bits .or .i64 (0:Int) (1:Int))
 else
 bif (decide ((97:UInt8)≤c0)) then
 bif (decide (c0≤(122:UInt8))) then
 qg (bits .or .i64 (bits .or .i64 (0:Int) (1:Int)) (656:Int))
 else
 qg (bits .or .i64 (0:Int) (1:Int))
 else
 qg (bits .or .i64 (0:Int) (1:Int))
 else
 bif (decide ((97:UInt8)≤c0)) then
 bif (decide (c0≤(122:UInt8))) then
 qg (bits .or .i64 (bits .or .i64 (0:Int) (1:Int)) (656:Int))
 else
 qg (bits .or .i64 (0:Int) (1:Int))
 else
 qg (bits .or .i64 (0:Int) (1:Int))
 else
 bif (c0==(127:UInt8)) then
 bif (c0==(32:UInt8)) then
 qg (bits .or .i64 (bits .or .i64 (0:Int) (1:Int)) (2:Int))
 else
 bif (c0==(9:UInt8)) then
 qg (bits .or .i64 (bits .or .i64 (0:Int) (1:Int)) (2:Int))
 else
 bif (decide ((48:UInt8)≤c0)) then
 bif (decide (c0≤(57:UInt8))) then
 qg (bits .or .i64 (bits .or .i64 (0:Int) (1:Int)) (648:Int))
 else
 bif (decide ((65:UInt8)≤c0)) then
 bif (decide (c0≤(90:UInt8))) then
 bif (decide (c0≤(90:UInt8))) then
 qg (bits .or .i64 (bits .or .i64 (0:Int) (1:Int)) (656:Int))
 else
 qg (bits .or .i64 (0:Int) (1:Int))
 else
 bif (decide ((97:UInt8)≤c0)) then
 bif (decide (c0≤(122:UInt8))) then
 qg (bits .or .i64 (bits .or .i64 (0:Int) (1:Int)) (656:Int))
 else
 qg (bits .or .i64 (0:Int) (1:Int))
 else
 qg (bits .or .i64 (0:Int) (1:Int))
 else
 bif (decide ((97:UInt8)≤c0)) then
 bif (decide (c0≤(122:UInt8))) then
 qg (bits .or .i64 (bits .or .i64 (0:Int) (1:Int)) (656:Int))
 else
 qg (bits .or .i64 (0:Int) (1:Int))
 else
 qg (bits .or .i64 (0:Int) (1:Int))
 else
 bif (decide ((65:UInt8)≤c0)) then
 bif (decide (c0≤(90:UInt8))) then
 bif (decide (c0≤(90:UInt8))) then
 qg (bits .or .i64 (bits .or .i64 (0:Int) (1:Int)) (656:Int))
 else
 qg (bits .or .i64 (0:Int) (1:Int))
 else
 bif (decide ((97:UInt8)≤c0)) then
 bif (decide (c0≤(122:UInt8))) then
 qg (bits .or .i64 (bits .or .i64 (0:Int) (1:Int)) (656:Int))
 else
 qg (bits .or .i64 (0:Int) (1:Int))
 else
 qg (bits .or .i64 (0:Int) (1:Int))
 else
 bif (decide ((97:UInt8)≤c0)) then
 bif (decide (c0≤(122:UInt8))) then
 qg (bits .or .i64 (bits .or .i64 (0:Int) (1:Int)) (656:Int))
 else
 qg (bits .or .i64 (0:Int) (1:Int))
 else
 qg (bits .or .i64 (0:Int) (1:Int))
 else
 bif (c0==(32:UInt8)) then
 qg (bits .or .i64 (0:Int) (2:Int))
 else
 bif (c0==(9:UInt8)) then
 qg (bits .or .i64 (0:Int) (2:Int))
 else
 bif (decide ((48:UInt8)≤c0)) then
 bif (decide (c0≤(57:UInt8))) then
 qg (bits .or .i64 (0:Int) (648:Int))
 else
 bif (decide ((65:UInt8)≤c0)) then
 bif (decide (c0≤(90:UInt8))) then
 bif (decide (c0≤(90:UInt8))) then
 qg (bits .or .i64 (0:Int) (656:Int))
 else
 qg (0:Int)
 else
 bif (decide ((97:UInt8)≤c0)) then
 bif (decide (c0≤(122:UInt8))) then
 qg (bits .or .i64 (0:Int) (656:Int))
 else
 qg (0:Int)
 else
 qg (0:Int)
 else
 bif (decide ((97:UInt8)≤c0)) then
 bif (decide (c0≤(122:UInt8))) then
 qg (bits .or .i64 (0:Int) (656:Int))
 else
 qg (0:Int)
 else
 qg (0:Int)
 else
 bif (decide ((65:UInt8)≤c0)) then
 bif (decide (c0≤(90:UInt8))) then
 bif (decide (c0≤(90:UInt8))) then
 qg (bits .or .i64 (0:Int) (656:Int))
 else
 qg (0:Int)
 else
 bif (decide ((97:UInt8)≤c0)) then
 bif (decide (c0≤(122:UInt8))) then
 qg (bits .or .i64 (0:Int) (656:Int))
 else
 qg (0:Int)
 else
 qg (0:Int)
 else
 bif (decide ((97:UInt8)≤c0)) then
 bif (decide (c0≤(122:UInt8))) then
 qg (bits .or .i64 (0:Int) (656:Int))
 else
 qg (0:Int)
 else
 qg (0:Int)
def qrX (s4:Int):Option AV:=some (.dat (.int .i64) s4 none)
def qxq (_n:Nat) (s0:List UInt8) (c1:UInt8):Option AV :=
 qrX (z241 s0 c1)
def qrY (s4:Int):Option AV:=some (.dat (.int .i64) s4 none)
def qxr (_n:Nat) (s0:List UInt8) (c1:UInt8):Option AV :=
 qrY (z229 s0 c1)
def qrZ (s4:Bool):Option AV:=some (.dat .bool s4 none)
def qxs (_n:Nat) (s0:List UInt8) (c1:UInt8):Option AV :=
 qrZ (decide ((0:Int)≤(z192 s0 c1)))
def qV (s2:Int):Option AV:=some (.dat (.int .i64) s2 none)
def qsa (_n:Nat) (c0:UInt8):Option AV :=
 bif (decide (c0 < (33:UInt8))) then
 qV (z214 c0)
 else
 bif (decide ((126:UInt8) < c0)) then
 qV (z214 c0)
 else
 bif (z215 ([33,42,43,45,47]:List UInt8) c0) then
 bif (z215 ([43,47]:List UInt8) c0) then
 bif (z215 ([40,41,60,62,64,44,59,58,92,34,47,91,93,63,61]:List UInt8) c0) then
 qV (bits .or .i64 (bits .or .i64 (bits .or .i64 (bits .or .i64 (z214 c0) (4:Int)) (128:Int)) (512:Int)) (32:Int))
 else
 bif (!(z215 ([42,39,37]:List UInt8) c0)) then
 qV (bits .or .i64 (bits .or .i64 (bits .or .i64 (bits .or .i64 (bits .or .i64 (z214 c0) (4:Int)) (128:Int)) (512:Int)) (64:Int)) (256:Int))
 else
 qV (bits .or .i64 (bits .or .i64 (bits .or .i64 (bits .or .i64 (z214 c0) (4:Int)) (128:Int)) (512:Int)) (64:Int))
 else
 bif (z215 ([40,41,60,62,64,44,59,58,92,34,47,91,93,63,61]:List UInt8) c0) then
 qV (bits .or .i64 (bits .or .i64 (bits .or .i64 (z214 c0) (4:Int)) (128:Int)) (32:Int))
 else
 bif (!(z215 ([42,39,37]:List UInt8) c0)) then
 qV (bits .or .i64 (bits .or .i64 (bits .or .i64 (bits .or .i64 (z214 c0) (4:Int)) (128:Int)) (64:Int)) (256:Int))
 else
 qV (bits .or .i64 (bits .or .i64 (bits .or .i64 (z214 c0) (4:Int)) (128:Int)) (64:Int))
 else
 bif (z215 ([43,47]:List UInt8) c0) then
 bif (z215 ([40,41,60,62,64,44,59,58,92,34,47,91,93,63,61]:List UInt8) c0) then
 qV (bits .or .i64 (bits .or .i64 (bits .or .i64 (z214 c0) (4:Int)) (512:Int)) (32:Int))
 else
 bif (!(z215 ([42,39,37]:List UInt8) c0)) then
 qV (bits .or .i64 (bits .or .i64 (bits .or .i64 (bits .or .i64 (z214 c0) (4:Int)) (512:Int)) (64:Int)) (256:Int))
 else
 qV (bits .or .i64 (bits .or .i64 (bits .or .i64 (z214 c0) (4:Int)) (512:Int)) (64:Int))
 else
 bif (z215 ([40,41,60,62,64,44,59,58,92,34,47,91,93,63,61]:List UInt8) c0) then
 qV (bits .or .i64 (bits .or .i64 (z214 c0) (4:Int)) (32:Int))
 else
 bif (!(z215 ([42,39,37]:List UInt8) c0)) then
 qV (bits .or .i64 (bits .or .i64 (bits .or .i64 (z214 c0) (4:Int)) (64:Int)) (256:Int))
 else
 qV (bits .or .i64 (bits .or .i64 (z214 c0) (4:Int)) (64:Int))
def qsb (s4:Bool):Option AV:=some (.dat .bool s4 none)
def qxt (_n:Nat) (c0:UInt8) (kinds1:Int):Option AV :=
 qsb ((bits .and .i64 (z180 c0) kinds1) != (0:Int))
def qsc (s4:Int):Option AV:=some (.dat (.int .i64) s4 none)
def qcn (k0:Int→Option AV) (next:Int→Int→List UInt8→Int→Int→Option AV) (_n:Nat) (kinds1:Int) (n5:Int) (s8:List UInt8) (s9:Int) (s10:Int):Option AV :=
 bif (decide (s10 < s9)) then
 bif ((decide ((0:Int)≤s10))&&(decide (s10 < (List.length s8:Nat)))) then
 bif (z129 (List.getD s8 (Int.toNat s10) (0:UInt8)) kinds1) then
 next kinds1 (IntKind.wrap .i64 (n5+(1:Int))) s8 s9 (IntKind.wrap .i64 (s10+(1:Int)))
 else
 next kinds1 n5 s8 s9 (IntKind.wrap .i64 (s10+(1:Int)))
 else none
 else
 k0 n5
def qdA (k0:Int→Option AV):Nat→Int→Int→List UInt8→Int→Int→Option AV
 | 0=>fun _ _ _ _ _=>none
 | n+1=>qcn k0 (qdA k0 n) n
def qdB (_n:Nat) (n5:Int):Option AV :=
 qsc n5
def qmy (n:Nat) (s0:List UInt8) (kinds1:Int):Option AV :=
 qdA (qdB n) n kinds1 (0:Int) s0 ((List.length s0:Nat):Int) (0:Int)
def qsd (s4:Bool):Option AV:=some (.dat .bool s4 none)
def qzu (_n:Nat) (s0:List UInt8) (kinds1:Int):Option AV :=
 bif ((qmX s0 kinds1)&&true) then
 qsd ((z127 s0 kinds1)==((List.length s0:Nat):Int))
 else none
def qse (s4:Bool):Option AV:=some (.dat .bool s4 none)
def qzv (_n:Nat) (s0:List UInt8) (kinds1:Int):Option AV :=
 bif (decide ((0:Int) < ((List.length s0:Nat):Int))) then
 bif ((qoj s0 kinds1)&&true) then
 qse (z80 s0 kinds1)
 else none
 else
 qse false
def qA (s2:(List UInt8)×(Int×((List UInt8)×Unit))) (s3:Int):Option AV:=some (.tup [(.dat (.pair (.sl .byte) (.pair (.int .i64) (.pair (.sl .byte) .unit))) s2 none),(.dat (.int .i64) s3 none)])
def qzw (_n:Nat) (s0:List UInt8):Option AV :=
 bif ((qto s0 ([(63:UInt8)]:List UInt8))&&true) then
 bif (((List.length (z37 s0 ([(63:UInt8)]:List UInt8)):Nat):Int) != (5:Int)) then
 qA (([]:List UInt8),((0:Int),(([]:List UInt8),()))) (3:Int)
 else
 bif ((decide ((0:Int)≤(0:Int)))&&(decide ((0:Int) < (List.length (z37 s0 ([(63:UInt8)]:List UInt8)):Nat)))) then
 bif ((List.getD (z37 s0 ([(63:UInt8)]:List UInt8)) (Int.toNat (0:Int)) ([]:List UInt8)) != ([61]:List UInt8)) then
 qA (([]:List UInt8),((0:Int),(([]:List UInt8),()))) (3:Int)
 else
 bif ((decide ((0:Int)≤(4:Int)))&&(decide ((4:Int) < (List.length (z37 s0 ([(63:UInt8)]:List UInt8)):Nat)))) then
 bif ((List.getD (z37 s0 ([(63:UInt8)]:List UInt8)) (Int.toNat (4:Int)) ([]:List UInt8)) != ([61]:List UInt8)) then
 qA (([]:List UInt8),((0:Int),(([]:List UInt8),()))) (3:Int)
 else
 bif ((decide ((0:Int)≤(1:Int)))&&(decide ((1:Int) < (List.length (z37 s0 ([(63:UInt8)]:List UInt8)):Nat)))) then
 bif ((decide ((0:Int)≤(2:Int)))&&(decide ((2:Int) < (List.length (z37 s0 ([(63:UInt8)]:List UInt8)):Nat)))) then
 bif ((decide ((0:Int)≤(3:Int)))&&(decide ((3:Int) < (List.length (z37 s0 ([(63:UInt8)]:List UInt8)):Nat)))) then
 both (
 bif ((qcY (List.getD (z37 s0 ([(63:UInt8)]:List UInt8)) (Int.toNat (1:Int)) ([]:List UInt8)))&&true) then
 both (
 bif ((qoh (List.getD (z37 s0 ([(63:UInt8)]:List UInt8)) (Int.toNat (2:Int)) ([]:List UInt8)))&&true) then
 both (
 bif ((qcY (List.getD (z37 s0 ([(63:UInt8)]:List UInt8)) (Int.toNat (3:Int)) ([]:List UInt8)))&&true) then
 both (
 bif (((z38 (List.getD (z37 s0 ([(63:UInt8)]:List UInt8)) (Int.toNat (1:Int)) ([]:List UInt8))),((z39 (List.getD (z37 s0 ([(63:UInt8)]:List UInt8)) (Int.toNat (2:Int)) ([]:List UInt8))),((z38 (List.getD (z37 s0 ([(63:UInt8)]:List UInt8)) (Int.toNat (3:Int)) ([]:List UInt8))),()))).2.1==(0:Int)) then
 qA (([]:List UInt8),((0:Int),(([]:List UInt8),()))) (3:Int)
 else
 bif ((qdI ((z38 (List.getD (z37 s0 ([(63:UInt8)]:List UInt8)) (Int.toNat (1:Int)) ([]:List UInt8))),((z39 (List.getD (z37 s0 ([(63:UInt8)]:List UInt8)) (Int.toNat (2:Int)) ([]:List UInt8))),((z38 (List.getD (z37 s0 ([(63:UInt8)]:List UInt8)) (Int.toNat (3:Int)) ([]:List UInt8))),()))).1 (64:Int))&&true) then
 bif (!(z40 ((z38 (List.getD (z37 s0 ([(63:UInt8)]:List UInt8)) (Int.toNat (1:Int)) ([]:List UInt8))),((z39 (List.getD (z37 s0 ([(63:UInt8)]:List UInt8)) (Int.toNat (2:Int)) ([]:List UInt8))),((z38 (List.getD (z37 s0 ([(63:UInt8)]:List UInt8)) (Int.toNat (3:Int)) ([]:List UInt8))),()))).1 (64:Int))) then
 qA (([]:List UInt8),((0:Int),(([]:List UInt8),()))) (3:Int)
 else
 bif ((qdI ((z38 (List.getD (z37 s0 ([(63:UInt8)]:List UInt8)) (Int.toNat (1:Int)) ([]:List UInt8))),((z39 (List.getD (z37 s0 ([(63:UInt8)]:List UInt8)) (Int.toNat (2:Int)) ([]:List UInt8))),((z38 (List.getD (z37 s0 ([(63:UInt8)]:List UInt8)) (Int.toNat (3:Int)) ([]:List UInt8))),()))).2.2.1 (4:Int))&&true) then
 bif (!(z40 ((z38 (List.getD (z37 s0 ([(63:UInt8)]:List UInt8)) (Int.toNat (1:Int)) ([]:List UInt8))),((z39 (List.getD (z37 s0 ([(63:UInt8)]:List UInt8)) (Int.toNat (2:Int)) ([]:List UInt8))),((z38 (List.getD (z37 s0 ([(63:UInt8)]:List UInt8)) (Int.toNat (3:Int)) ([]:List UInt8))),()))).2.2.1 (4:Int))) then
 qA (([]:List UInt8),((0:Int),(([]:List UInt8),()))) (3:Int)
 else
 bif (decide ((75:Int) < ((List.length s0:Nat):Int))) then
 qA (([]:List UInt8),((0:Int),(([]:List UInt8),()))) (12:Int)
 else
 qA ((z38 (List.getD (z37 s0 ([(63:UInt8)]:List UInt8)) (Int.toNat (1:Int)) ([]:List UInt8))),((z39 (List.getD (z37 s0 ([(63:UInt8)]:List UInt8)) (Int.toNat (2:Int)) ([]:List UInt8))),((z38 (List.getD (z37 s0 ([(63:UInt8)]:List UInt8)) (Int.toNat (3:Int)) ([]:List UInt8))),()))) (0:Int)
 else none
 else none) (
 bif (((z38 (List.getD (z37 s0 ([(63:UInt8)]:List UInt8)) (Int.toNat (1:Int)) ([]:List UInt8))),((z39 (List.getD (z37 s0 ([(63:UInt8)]:List UInt8)) (Int.toNat (2:Int)) ([]:List UInt8))),((z38 (List.getD (z37 s0 ([(63:UInt8)]:List UInt8)) (Int.toNat (3:Int)) ([]:List UInt8))),()))).2.1==(0:Int)) then
 qA (([]:List UInt8),((0:Int),(([]:List UInt8),()))) (3:Int)
 else
 bif ((qdI ((z38 (List.getD (z37 s0 ([(63:UInt8)]:List UInt8)) (Int.toNat (1:Int)) ([]:List UInt8))),((z39 (List.getD (z37 s0 ([(63:UInt8)]:List UInt8)) (Int.toNat (2:Int)) ([]:List UInt8))),((z38 (List.getD (z37 s0 ([(63:UInt8)]:List UInt8)) (Int.toNat (3:Int)) ([]:List UInt8))),()))).1 (64:Int))&&true) then
 bif (!(z40 ((z38 (List.getD (z37 s0 ([(63:UInt8)]:List UInt8)) (Int.toNat (1:Int)) ([]:List UInt8))),((z39 (List.getD (z37 s0 ([(63:UInt8)]:List UInt8)) (Int.toNat (2:Int)) ([]:List UInt8))),((z38 (List.getD (z37 s0 ([(63:UInt8)]:List UInt8)) (Int.toNat (3:Int)) ([]:List UInt8))),()))).1 (64:Int))) then
 qA (([]:List UInt8),((0:Int),(([]:List UInt8),()))) (3:Int)
 else
 bif ((qdI ((z38 (List.getD (z37 s0 ([(63:UInt8)]:List UInt8)) (Int.toNat (1:Int)) ([]:List UInt8))),((z39 (List.getD (z37 s0 ([(63:UInt8)]:List UInt8)) (Int.toNat (2:Int)) ([]:List UInt8))),((z38 (List.getD (z37 s0 ([(63:UInt8)]:List UInt8)) (Int.toNat (3:Int)) ([]:List UInt8))),()))).2.2.1 (4:Int))&&true) then
 bif (!(z40 ((z38 (List.getD (z37 s0 ([(63:UInt8)]:List UInt8)) (Int.toNat (1:Int)) ([]:List UInt8))),((z39 (List.getD (z37 s0 ([(63:UInt8)]:List UInt8)) (Int.toNat (2:Int)) ([]:List UInt8))),((z38 (List.getD (z37 s0 ([(63:UInt8)]:List UInt8)) (Int.toNat (3:Int)) ([]:List UInt8))),()))).2.2.1 (4:Int))) then
 qA (([]:List UInt8),((0:Int),(([]:List UInt8),()))) (3:Int)
 else
 bif (decide ((75:Int) < ((List.length s0:Nat):Int))) then
 qA (([]:List UInt8),((0:Int),(([]:List UInt8),()))) (12:Int)
 else
 qA ((z38 (List.getD (z37 s0 ([(63:UInt8)]:List UInt8)) (Int.toNat (1:Int)) ([]:List UInt8))),((z39 (List.getD (z37 s0 ([(63:UInt8)]:List UInt8)) (Int.toNat (2:Int)) ([]:List UInt8))),((z38 (List.getD (z37 s0 ([(63:UInt8)]:List UInt8)) (Int.toNat (3:Int)) ([]:List UInt8))),()))) (0:Int)
 else none
 else none)
 else none) (
 bif ((qcY (List.getD (z37 s0 ([(63:UInt8)]:List UInt8)) (Int.toNat (3:Int)) ([]:List UInt8)))&&true) then
 bif (((z38 (List.getD (z37 s0 ([(63:UInt8)]:List UInt8)) (Int.toNat (1:Int)) ([]:List UInt8))),((z39 (List.getD (z37 s0 ([(63:UInt8)]:List UInt8)) (Int.toNat (2:Int)) ([]:List UInt8))),((z38 (List.getD (z37 s0 ([(63:UInt8)]:List UInt8)) (Int.toNat (3:Int)) ([]:List UInt8))),()))).2.1==(0:Int)) then
 qA (([]:List UInt8),((0:Int),(([]:List UInt8),()))) (3:Int)
 else
 bif ((qdI ((z38 (List.getD (z37 s0 ([(63:UInt8)]:List UInt8)) (Int.toNat (1:Int)) ([]:List UInt8))),((z39 (List.getD (z37 s0 ([(63:UInt8)]:List UInt8)) (Int.toNat (2:Int)) ([]:List UInt8))),((z38 (List.getD (z37 s0 ([(63:UInt8)]:List UInt8)) (Int.toNat (3:Int)) ([]:List UInt8))),()))).1 (64:Int))&&true) then
 bif (!(z40 ((z38 (List.getD (z37 s0 ([(63:UInt8)]:List UInt8)) (Int.toNat (1:Int)) ([]:List UInt8))),((z39 (List.getD (z37 s0 ([(63:UInt8)]:List UInt8)) (Int.toNat (2:Int)) ([]:List UInt8))),((z38 (List.getD (z37 s0 ([(63:UInt8)]:List UInt8)) (Int.toNat (3:Int)) ([]:List UInt8))),()))).1 (64:Int))) then
 qA (([]:List UInt8),((0:Int),(([]:List UInt8),()))) (3:Int)
 else
 bif ((qdI ((z38 (List.getD (z37 s0 ([(63:UInt8)]:List UInt8)) (Int.toNat (1:Int)) ([]:List UInt8))),((z39 (List.getD (z37 s0 ([(63:UInt8)]:List UInt8)) (Int.toNat (2:Int)) ([]:List UInt8))),((z38 (List.getD (z37 s0 ([(63:UInt8)]:List UInt8)) (Int.toNat (3:Int)) ([]:List UInt8))),()))).2.2.1 (4:Int))&&true) then
 bif (!(z40 ((z38 (List.getD (z37 s0 ([(63:UInt8)]:List UInt8)) (Int.toNat (1:Int)) ([]:List UInt8))),((z39 (List.getD (z37 s0 ([(63:UInt8)]:List UInt8)) (Int.toNat (2:Int)) ([]:List UInt8))),((z38 (List.getD (z37 s0 ([(63:UInt8)]:List UInt8)) (Int.toNat (3:Int)) ([]:List UInt8))),()))).2.2.1 (4:Int))) then
 qA (([]:List UInt8),((0:Int),(([]:List UInt8),()))) (3:Int)
 else
 bif (decide ((75:Int) < ((List.length s0:Nat):Int))) then
 qA (([]:List UInt8),((0:Int),(([]:List UInt8),()))) (12:Int)
 else
 qA ((z38 (List.getD (z37 s0 ([(63:UInt8)]:List UInt8)) (Int.toNat (1:Int)) ([]:List UInt8))),((z39 (List.getD (z37 s0 ([(63:UInt8)]:List UInt8)) (Int.toNat (2:Int)) ([]:List UInt8))),((z38 (List.getD (z37 s0 ([(63:UInt8)]:List UInt8)) (Int.toNat (3:Int)) ([]:List UInt8))),()))) (0:Int)
 else none
 else none
 else none)
 else none) (
 bif ((qoh (List.getD (z37 s0 ([(63:UInt8)]:List UInt8)) (Int.toNat (2:Int)) ([]:List UInt8)))&&true) then
 bif ((qcY (List.getD (z37 s0 ([(63:UInt8)]:List UInt8)) (Int.toNat (3:Int)) ([]:List UInt8)))&&true) then
 bif (((z38 (List.getD (z37 s0 ([(63:UInt8)]:List UInt8)) (Int.toNat (1:Int)) ([]:List UInt8))),((z39 (List.getD (z37 s0 ([(63:UInt8)]:List UInt8)) (Int.toNat (2:Int)) ([]:List UInt8))),((z38 (List.getD (z37 s0 ([(63:UInt8)]:List UInt8)) (Int.toNat (3:Int)) ([]:List UInt8))),()))).2.1==(0:Int)) then
 qA (([]:List UInt8),((0:Int),(([]:List UInt8),()))) (3:Int)
 else
 bif ((qdI ((z38 (List.getD (z37 s0 ([(63:UInt8)]:List UInt8)) (Int.toNat (1:Int)) ([]:List UInt8))),((z39 (List.getD (z37 s0 ([(63:UInt8)]:List UInt8)) (Int.toNat (2:Int)) ([]:List UInt8))),((z38 (List.getD (z37 s0 ([(63:UInt8)]:List UInt8)) (Int.toNat (3:Int)) ([]:List UInt8))),()))).1 (64:Int))&&true) then
 bif (!(z40 ((z38 (List.getD (z37 s0 ([(63:UInt8)]:List UInt8)) (Int.toNat (1:Int)) ([]:List UInt8))),((z39 (List.getD (z37 s0 ([(63:UInt8)]:List UInt8)) (Int.toNat (2:Int)) ([]:List UInt8))),((z38 (List.getD (z37 s0 ([(63:UInt8)]:List UInt8)) (Int.toNat (3:Int)) ([]:List UInt8))),()))).1 (64:Int))) then
 qA (([]:List UInt8),((0:Int),(([]:List UInt8),()))) (3:Int)
 else
 bif ((qdI ((z38 (List.getD (z37 s0 ([(63:UInt8)]:List UInt8)) (Int.toNat (1:Int)) ([]:List UInt8))),((z39 (List.getD (z37 s0 ([(63:UInt8)]:List UInt8)) (Int.toNat (2:Int)) ([]:List UInt8))),((z38 (List.getD (z37 s0 ([(63:UInt8)]:List UInt8)) (Int.toNat (3:Int)) ([]:List UInt8))),()))).2.2.1 (4:Int))&&true) then
 bif (!(z40 ((z38 (List.getD (z37 s0 ([(63:UInt8)]:List UInt8)) (Int.toNat (1:Int)) ([]:List UInt8))),((z39 (List.getD (z37 s0 ([(63:UInt8)]:List UInt8)) (Int.toNat (2:Int)) ([]:List UInt8))),((z38 (List.getD (z37 s0 ([(63:UInt8)]:List UInt8)) (Int.toNat (3:Int)) ([]:List UInt8))),()))).2.2.1 (4:Int))) then
 qA (([]:List UInt8),((0:Int),(([]:List UInt8),()))) (3:Int)
 else
 bif (decide ((75:Int) < ((List.length s0:Nat):Int))) then
 qA (([]:List UInt8),((0:Int),(([]:List UInt8),()))) (12:Int)
 else
 qA ((z38 (List.getD (z37 s0 ([(63:UInt8)]:List UInt8)) (Int.toNat (1:Int)) ([]:List UInt8))),((z39 (List.getD (z37 s0 ([(63:UInt8)]:List UInt8)) (Int.toNat (2:Int)) ([]:List UInt8))),((z38 (List.getD (z37 s0 ([(63:UInt8)]:List UInt8)) (Int.toNat (3:Int)) ([]:List UInt8))),()))) (0:Int)
 else none
 else none
 else none
 else none)
 else none) (
 bif ((qcY (List.getD (z37 s0 ([(63:UInt8)]:List UInt8)) (Int.toNat (1:Int)) ([]:List UInt8)))&&true) then
 bif ((qoh (List.getD (z37 s0 ([(63:UInt8)]:List UInt8)) (Int.toNat (2:Int)) ([]:List UInt8)))&&true) then
 bif ((qcY (List.getD (z37 s0 ([(63:UInt8)]:List UInt8)) (Int.toNat (3:Int)) ([]:List UInt8)))&&true) then
 bif (((z38 (List.getD (z37 s0 ([(63:UInt8)]:List UInt8)) (Int.toNat (1:Int)) ([]:List UInt8))),((z39 (List.getD (z37 s0 ([(63:UInt8)]:List UInt8)) (Int.toNat (2:Int)) ([]:List UInt8))),((z38 (List.getD (z37 s0 ([(63:UInt8)]:List UInt8)) (Int.toNat (3:Int)) ([]:List UInt8))),()))).2.1==(0:Int)) then
 qA (([]:List UInt8),((0:Int),(([]:List UInt8),()))) (3:Int)
 else
 bif ((qdI ((z38 (List.getD (z37 s0 ([(63:UInt8)]:List UInt8)) (Int.toNat (1:Int)) ([]:List UInt8))),((z39 (List.getD (z37 s0 ([(63:UInt8)]:List UInt8)) (Int.toNat (2:Int)) ([]:List UInt8))),((z38 (List.getD (z37 s0 ([(63:UInt8)]:List UInt8)) (Int.toNat (3:Int)) ([]:List UInt8))),()))).1 (64:Int))&&true) then
 bif (!(z40 ((z38 (List.getD (z37 s0 ([(63:UInt8)]:List UInt8)) (Int.toNat (1:Int)) ([]:List UInt8))),((z39 (List.getD (z37 s0 ([(63:UInt8)]:List UInt8)) (Int.toNat (2:Int)) ([]:List UInt8))),((z38 (List.getD (z37 s0 ([(63:UInt8)]:List UInt8)) (Int.toNat (3:Int)) ([]:List UInt8))),()))).1 (64:Int))) then
 qA (([]:List UInt8),((0:Int),(([]:List UInt8),()))) (3:Int)
 else
 bif ((qdI ((z38 (List.getD (z37 s0 ([(63:UInt8)]:List UInt8)) (Int.toNat (1:Int)) ([]:List UInt8))),((z39 (List.getD (z37 s0 ([(63:UInt8)]:List UInt8)) (Int.toNat (2:Int)) ([]:List UInt8))),((z38 (List.getD (z37 s0 ([(63:UInt8)]:List UInt8)) (Int.toNat (3:Int)) ([]:List UInt8))),()))).2.2.1 (4:Int))&&true) then
 bif (!(z40 ((z38 (List.getD (z37 s0 ([(63:UInt8)]:List UInt8)) (Int.toNat (1:Int)) ([]:List UInt8))),((z39 (List.getD (z37 s0 ([(63:UInt8)]:List UInt8)) (Int.toNat (2:Int)) ([]:List UInt8))),((z38 (List.getD (z37 s0 ([(63:UInt8)]:List UInt8)) (Int.toNat (3:Int)) ([]:List UInt8))),()))).2.2.1 (4:Int))) then
 qA (([]:List UInt8),((0:Int),(([]:List UInt8),()))) (3:Int)
 else
 bif (decide ((75:Int) < ((List.length s0:Nat):Int))) then
 qA (([]:List UInt8),((0:Int),(([]:List UInt8),()))) (12:Int)
 else
 qA ((z38 (List.getD (z37 s0 ([(63:UInt8)]:List UInt8)) (Int.toNat (1:Int)) ([]:List UInt8))),((z39 (List.getD (z37 s0 ([(63:UInt8)]:List UInt8)) (Int.toNat (2:Int)) ([]:List UInt8))),((z38 (List.getD (z37 s0 ([(63:UInt8)]:List UInt8)) (Int.toNat (3:Int)) ([]:List UInt8))),()))) (0:Int)
 else none
 else none
 else none
 else none
 else none)
 else none
 else none
 else none
 else none
 else none
 else none
def qxu (s2:Bool):Option AV:=some (.dat .bool s2 none)
def qzx (_n:Nat) (s0:List UInt8):Option AV :=
 bif ((qgz s0)&&true) then
 qxu (((z11 s0).2)==(0:Int))
 else none
def qsf (s2:Bool):Option AV:=some (.dat .bool s2 none)
def qzy (_n:Nat) (n0:Int):Option AV :=
 bif (decide ((1:Int)≤n0)) then
 qsf (decide (n0≤(5:Int)))
 else
 qsf false
def qmz (s2:List UInt8):Option AV:=some (.dat .str s2 none)
def qzz (_n:Nat) (n0:Int):Option AV :=
 bif (n0==(1:Int)) then
 qmz ([66]:List UInt8)
 else
 bif (n0==(2:Int)) then
 qmz ([81]:List UInt8)
 else
 qmz ([]:List UInt8)
def qmA (s2:Int):Option AV:=some (.dat (.int .i64) s2 none)
def qzA (_n:Nat) (c0:UInt8):Option AV :=
 bif (c0==(32:UInt8)) then
 qmA (1:Int)
 else
 bif (z129 c0 (128:Int)) then
 qmA (1:Int)
 else
 qmA (3:Int)
def qxv (s2:Int):Option AV:=some (.dat (.int .i64) s2 none)
def qee (k0:Int→Option AV) (next:Int→List UInt8→Int→Int→Option AV) (_n:Nat) (n3:Int) (s6:List UInt8) (s7:Int) (s8:Int):Option AV :=
 bif (decide (s8 < s7)) then
 bif ((decide ((0:Int)≤s8))&&(decide (s8 < (List.length s6:Nat)))) then
 next (IntKind.wrap .i64 (n3+(z84 (List.getD s6 (Int.toNat s8) (0:UInt8))))) s6 s7 (IntKind.wrap .i64 (s8+(1:Int)))
 else none
 else
 k0 n3
def qkP (k0:Int→Option AV):Nat→Int→List UInt8→Int→Int→Option AV
 | 0=>fun _ _ _ _=>none
 | n+1=>qee k0 (qkP k0 n) n
def qgb (_n:Nat) (n3:Int):Option AV :=
 qxv n3
def qwf (n:Nat) (s0:List UInt8):Option AV :=
 qkP (qgb n) n (0:Int) s0 ((List.length s0:Nat):Int) (0:Int)
def qsg (s2:UInt8):Option AV:=some (.dat .byte s2 none)
def qsh (_n:Nat) (n0:Int):Option AV :=
 bif ((decide ((0:Int)≤(bits .and .i64 n0 (15:Int))))&&(decide ((bits .and .i64 n0 (15:Int)) < (List.length ([48,49,50,51,52,53,54,55,56,57,65,66,67,68,69,70]:List UInt8):Nat)))) then
 qsg (List.getD ([48,49,50,51,52,53,54,55,56,57,65,66,67,68,69,70]:List UInt8) (Int.toNat (bits .and .i64 n0 (15:Int))) (0:UInt8))
 else none
def qsi (s2:List UInt8):Option AV:=some (.dat (.sl .byte) s2 (some (2,5)))
def qsj (_n:Nat) (c0:UInt8):Option AV :=
 bif ((qcD (IntKind.wrap .i64 ((UInt8.toNat (UInt8.ofNat (UInt8.toNat c0 / 2 ^ (min (Int.toNat (4:Int)) 8))):Nat):Int)))&&true) then
 bif ((qcD (IntKind.wrap .i64 ((UInt8.toNat c0:Nat):Int)))&&true) then
 qsi ([(z181 (IntKind.wrap .i64 ((UInt8.toNat (UInt8.ofNat (UInt8.toNat c0 / 2 ^ (min (Int.toNat (4:Int)) 8))):Nat):Int))),(z181 (IntKind.wrap .i64 ((UInt8.toNat c0:Nat):Int)))]:List UInt8)
 else none
 else none
def qxw (s6:List UInt8):Option AV:=some (.dat (.sl .byte) s6 (some (6,5)))
def qzB (_n:Nat) (b0:List UInt8) (sign1:UInt8) (c2:UInt8):Option AV :=
 bif ((qcY b0)&&true) then
 bif (decide (List.length (z38 b0)+List.length ([sign1]:List UInt8)≤room)) then
 bif (decide (List.length ((z38 b0)++([sign1]:List UInt8))+List.length (z130 c2)≤room)) then
 qxw (((z38 b0)++([sign1]:List UInt8))++(z130 c2))
 else none
 else none
 else none
def qjv (s2:List UInt8):Option AV:=some (.dat (.sl .byte) s2 (some (2,5)))
def qef (k0:List UInt8→Option AV) (next:List UInt8→List UInt8→Int→Int→Option AV) (_n:Nat) (out3:List UInt8) (s9:List UInt8) (s10:Int) (s11:Int):Option AV :=
 bif (decide (s11 < s10)) then
 bif ((decide ((0:Int)≤s11))&&(decide (s11 < (List.length s9:Nat)))) then
 bif ((List.getD s9 (Int.toNat s11) (0:UInt8))==(32:UInt8)) then
 bif (decide (List.length out3+List.length ([(95:UInt8)]:List UInt8)≤room)) then
 next (out3++([(95:UInt8)]:List UInt8)) s9 s10 (IntKind.wrap .i64 (s11+(1:Int)))
 else none
 else
 bif ((z84 (List.getD s9 (Int.toNat s11) (0:UInt8)))==(1:Int)) then
 bif (decide (List.length out3+List.length ([(List.getD s9 (Int.toNat s11) (0:UInt8))]:List UInt8)≤room)) then
 next (out3++([(List.getD s9 (Int.toNat s11) (0:UInt8))]:List UInt8)) s9 s10 (IntKind.wrap .i64 (s11+(1:Int)))
 else none
 else
 bif ((qvf out3 (61:UInt8) (List.getD s9 (Int.toNat s11) (0:UInt8)))&&true) then
 next (z85 out3 (61:UInt8) (List.getD s9 (Int.toNat s11) (0:UInt8))) s9 s10 (IntKind.wrap .i64 (s11+(1:Int)))
 else none
 else none
 else
 k0 out3
def qkQ (k0:List UInt8→Option AV):Nat→List UInt8→List UInt8→Int→Int→Option AV
 | 0=>fun _ _ _ _=>none
 | n+1=>qef k0 (qkQ k0 n) n
def qgc (_n:Nat) (out3:List UInt8):Option AV :=
 qjv out3
def qwg (n:Nat) (s0:List UInt8):Option AV :=
 bif ((qnP s0)&&true) then
 bif (((decide ((0:Int)≤(0:Int)))&&(decide ((0:Int)≤(z83 s0))))&&(decide ((z83 s0)≤(room:Int)))) then
 qkQ (qgc n) n (List.replicate (Int.toNat (0:Int)) (0:UInt8)) s0 ((List.length s0:Nat):Int) (0:Int)
 else none
 else none
def qsk (s2:UInt8):Option AV:=some (.dat .byte s2 none)
def qsl (_n:Nat) (n0:Int):Option AV :=
 bif ((decide ((0:Int)≤(bits .and .i64 n0 (63:Int))))&&(decide ((bits .and .i64 n0 (63:Int)) < (List.length ([65,66,67,68,69,70,71,72,73,74,75,76,77,78,79,80,81,82,83,84,85,86,87,88,89,90,97,98,99,100,101,102,103,104,105,106,107,108,109,110,111,112,113,114,115,116,117,118,119,120,121,122,48,49,50,51,52,53,54,55,56,57,43,47]:List UInt8):Nat)))) then
 qsk (List.getD ([65,66,67,68,69,70,71,72,73,74,75,76,77,78,79,80,81,82,83,84,85,86,87,88,89,90,97,98,99,100,101,102,103,104,105,106,107,108,109,110,111,112,113,114,115,116,117,118,119,120,121,122,48,49,50,51,52,53,54,55,56,57,43,47]:List UInt8) (Int.toNat (bits .and .i64 n0 (63:Int))) (0:UInt8))
 else none
def qjw (s2:List UInt8):Option AV:=some (.dat (.sl .byte) s2 (some (2,5)))
def qsm (k2:List UInt8→Int→Int→List UInt8→Int→Int→Option AV) (next:List UInt8→Int→Int→List UInt8→Int→Int→Option AV) (_n:Nat) (out3:List UInt8) (held4:Int) (many5:Int) (s8:List UInt8) (s9:Int) (s10:Int):Option AV :=
 bif (decide ((6:Int)≤many5)) then
 bif (decide ((0:Int)≤(IntKind.wrap .i64 (many5 - (6:Int))))) then
 bif (decide (List.length out3+List.length ([(z132 (Int.fdiv held4 (2 ^ (min (Int.toNat (IntKind.wrap .i64 (many5 - (6:Int)))) (IntKind.bits .i64)))))]:List UInt8)≤room)) then
 next (out3++([(z132 (Int.fdiv held4 (2 ^ (min (Int.toNat (IntKind.wrap .i64 (many5 - (6:Int)))) (IntKind.bits .i64)))))]:List UInt8)) held4 (IntKind.wrap .i64 (many5 - (6:Int))) s8 s9 s10
 else none
 else none
 else
 k2 out3 held4 many5 s8 s9 s10
def qeg (k2:List UInt8→Int→Int→List UInt8→Int→Int→Option AV):Nat→List UInt8→Int→Int→List UInt8→Int→Int→Option AV
 | 0=>fun _ _ _ _ _ _=>none
 | n+1=>qsm k2 (qeg k2 n) n
def qbZ (_k0:List UInt8→Int→Int→Option AV) (next:List UInt8→Int→Int→List UInt8→Int→Int→Option AV) (_n:Nat) (out3:List UInt8) (held4:Int) (many5:Int) (s8:List UInt8) (s9:Int) (s10:Int):Option AV :=
 bif (decide ((0:Int)≤many5)) then
 next out3 (bits .and .i64 held4 (IntKind.wrap .i64 ((IntKind.wrap .i64 ((1:Int)*2 ^ (min (Int.toNat many5) (IntKind.bits .i64)))) - (1:Int)))) many5 s8 s9 (IntKind.wrap .i64 (s10+(1:Int)))
 else none
def qcS (k0:List UInt8→Int→Int→Option AV) (next:List UInt8→Int→Int→List UInt8→Int→Int→Option AV) (n:Nat) (out3:List UInt8) (held4:Int) (many5:Int) (s8:List UInt8) (s9:Int) (s10:Int):Option AV :=
 bif (decide (s10 < s9)) then
 bif ((decide ((0:Int)≤s10))&&(decide (s10 < (List.length s8:Nat)))) then
 qeg (qbZ k0 next n) n out3 (bits .or .i64 (IntKind.wrap .i64 (held4*2 ^ (min (Int.toNat (8:Int)) (IntKind.bits .i64)))) (IntKind.wrap .i64 ((UInt8.toNat (List.getD s8 (Int.toNat s10) (0:UInt8)):Nat):Int))) (IntKind.wrap .i64 (many5+(8:Int))) s8 s9 s10
 else none
 else
 k0 out3 held4 many5
def qkR (k0:List UInt8→Int→Int→Option AV):Nat→List UInt8→Int→Int→List UInt8→Int→Int→Option AV
 | 0=>fun _ _ _ _ _ _=>none
 | n+1=>qcS k0 (qkR k0 n) n
def qcT (_n:Nat) (out3:List UInt8) (held4:Int) (many5:Int):Option AV :=
 bif (decide ((0:Int) < many5)) then
 bif (decide ((0:Int)≤(IntKind.wrap .i64 ((6:Int) - many5)))) then
 bif (decide (List.length out3+List.length ([(z132 (IntKind.wrap .i64 (held4*2 ^ (min (Int.toNat (IntKind.wrap .i64 ((6:Int) - many5))) (IntKind.bits .i64)))))]:List UInt8)≤room)) then
 qjw (out3++([(z132 (IntKind.wrap .i64 (held4*2 ^ (min (Int.toNat (IntKind.wrap .i64 ((6:Int) - many5))) (IntKind.bits .i64)))))]:List UInt8))
 else none
 else none
 else
 qjw out3
def qwh (n:Nat) (s0:List UInt8):Option AV :=
 qkR (qcT n) n ([]:List UInt8) (0:Int) (0:Int) s0 ((List.length s0:Nat):Int) (0:Int)
def qcU (s2:List (List UInt8)):Option AV:=some (.dat (.sl .str) s2 (some (2,9)))
def qsn (_n:Nat) (charset0:Int):Option AV :=
 bif (charset0==(1:Int)) then
 qcU ([([117,115,45,97,115,99,105,105]:List UInt8),([97,115,99,105,105]:List UInt8),([97,110,115,105,95,120,51,46,52,45,49,57,54,56]:List UInt8),([105,115,111,54,52,54,45,117,115]:List UInt8)]:List (List UInt8))
 else
 bif (charset0==(2:Int)) then
 qcU ([([105,115,111,45,56,56,53,57,45,49]:List UInt8),([105,115,111,95,56,56,53,57,45,49]:List UInt8),([108,97,116,105,110,49]:List UInt8),([108,49]:List UInt8)]:List (List UInt8))
 else
 bif (charset0==(3:Int)) then
 qcU ([([105,115,111,45,56,56,53,57,45,49,53]:List UInt8),([105,115,111,95,56,56,53,57,45,49,53]:List UInt8),([108,97,116,105,110,45,57]:List UInt8)]:List (List UInt8))
 else
 bif (charset0==(4:Int)) then
 qcU ([([119,105,110,100,111,119,115,45,49,50,53,50]:List UInt8),([99,112,49,50,53,50]:List UInt8)]:List (List UInt8))
 else
 bif (charset0==(5:Int)) then
 qcU ([([117,116,102,45,56]:List UInt8),([117,116,102,56]:List UInt8)]:List (List UInt8))
 else
 qcU ([]:List (List UInt8))
def qso (s2:List UInt8):Option AV:=some (.dat .str s2 none)
def qzC (_n:Nat) (charset0:Int):Option AV :=
 bif (((List.length (z133 charset0):Nat):Int)==(0:Int)) then
 qso ([]:List UInt8)
 else
 bif ((decide ((0:Int)≤(0:Int)))&&(decide ((0:Int) < (List.length (z133 charset0):Nat)))) then
 qso (List.getD (z133 charset0) (Int.toNat (0:Int)) ([]:List UInt8))
 else none
def qxx (s4:List UInt8):Option AV:=some (.dat .str s4 none)
def qzD (_n:Nat) (charset0:Int) (code1:Int):Option AV :=
 bif (decide (List.length ([61,63]:List UInt8)+List.length (z89 charset0)≤9223372036854775807)) then
 bif (decide (List.length (([61,63]:List UInt8)++(z89 charset0))+List.length ([63]:List UInt8)≤9223372036854775807)) then
 bif (decide (List.length ((([61,63]:List UInt8)++(z89 charset0))++([63]:List UInt8))+List.length (z45 code1)≤9223372036854775807)) then
 bif (decide (List.length (((([61,63]:List UInt8)++(z89 charset0))++([63]:List UInt8))++(z45 code1))+List.length ([63]:List UInt8)≤9223372036854775807)) then
 qxx ((((([61,63]:List UInt8)++(z89 charset0))++([63]:List UInt8))++(z45 code1))++([63]:List UInt8))
 else none
 else none
 else none
 else none
def qez (s6:List UInt8) (s7:Int):Option AV:=some (.tup [(.dat (.sl .byte) s6 none),(.dat (.int .i64) s7 none)])
def qzE (_n:Nat) (charset0:Int) (code1:Int) (s2:List UInt8):Option AV :=
 bif (!(z44 charset0)) then
 qez ([]:List UInt8) (10:Int)
 else
 bif ((z45 code1)==([]:List UInt8)) then
 qez ([]:List UInt8) (3:Int)
 else
 bif (((List.length s2:Nat):Int)==(0:Int)) then
 qez ([]:List UInt8) (3:Int)
 else
 bif ((qvr s2)&&true) then
 bif (code1==(1:Int)) then
 bif ((qyJ s2)&&true) then
 bif (decide (List.length (z48 charset0 code1)≤room)) then
 bif (decide (List.length (z48 charset0 code1)+List.length (z47 s2)≤room)) then
 bif (decide (List.length ((z48 charset0 code1)++(z47 s2))+List.length ([63,61]:List UInt8)≤room)) then
 bif (decide ((75:Int) < ((List.length (((z48 charset0 code1)++(z47 s2))++([63,61]:List UInt8)):Nat):Int))) then
 qez ([]:List UInt8) (12:Int)
 else
 qez (((z48 charset0 code1)++(z47 s2))++([63,61]:List UInt8)) (0:Int)
 else none
 else none
 else none
 else none
 else
 bif (decide (List.length (z48 charset0 code1)≤room)) then
 bif (decide (List.length (z48 charset0 code1)+List.length (z46 s2)≤room)) then
 bif (decide (List.length ((z48 charset0 code1)++(z46 s2))+List.length ([63,61]:List UInt8)≤room)) then
 bif (decide ((75:Int) < ((List.length (((z48 charset0 code1)++(z46 s2))++([63,61]:List UInt8)):Nat):Int))) then
 qez ([]:List UInt8) (12:Int)
 else
 qez (((z48 charset0 code1)++(z46 s2))++([63,61]:List UInt8)) (0:Int)
 else none
 else none
 else none
 else none
def qjx (s2:Int):Option AV:=some (.dat (.int .i64) s2 none)
def qzF (_n:Nat) (charset0:Int):Option AV :=
 bif (!(z44 charset0)) then
 qjx (0:Int)
 else
 qjx (IntKind.wrap .i64 ((IntKind.wrap .i64 (((List.length (z48 charset0 (2:Int)):Nat):Int)+(1:Int)))+(1:Int)))
def qsp (s2:List Int):Option AV:=some (.dat (.sl (.int .i32)) s2 (some (2,21)))
def qeh (k0:List Int→Option AV) (next:List Int→List UInt8→Int→Int→Option AV) (_n:Nat) (t3:List Int) (s9:List UInt8) (s10:Int) (s11:Int):Option AV :=
 bif (decide (s11 < s10)) then
 bif ((decide ((0:Int)≤s11))&&(decide (s11 < (List.length s9:Nat)))) then
 bif ((decide ((0:Int)≤s11))&&(decide (s11 < (List.length t3:Nat)))) then
 next (List.set t3 (Int.toNat s11) (IntKind.wrap .i32 ((UInt8.toNat (List.getD s9 (Int.toNat s11) (0:UInt8)):Nat):Int))) s9 s10 (IntKind.wrap .i64 (s11+(1:Int)))
 else none
 else none
 else
 k0 t3
def qkS (k0:List Int→Option AV):Nat→List Int→List UInt8→Int→Int→Option AV
 | 0=>fun _ _ _ _=>none
 | n+1=>qeh k0 (qkS k0 n) n
def qgd (_n:Nat) (t3:List Int):Option AV :=
 qsp t3
def qwi (n:Nat) (s0:List UInt8):Option AV :=
 bif (((decide ((0:Int)≤((List.length s0:Nat):Int)))&&(decide (((List.length s0:Nat):Int)≤((List.length s0:Nat):Int))))&&(decide (((List.length s0:Nat):Int)≤(room:Int)))) then
 qkS (qgd n) n (List.replicate (Int.toNat ((List.length s0:Nat):Int)) (0:Int)) s0 ((List.length s0:Nat):Int) (0:Int)
 else none
def qkT (s2:Int):Option AV:=some (.dat (.int .i32) s2 none)
def qsq (_n:Nat) (c0:Int):Option AV :=
 bif (decide ((128:Int)≤c0)) then
 qkT (65533:Int)
 else
 qkT c0
def qsr (s2:List Int):Option AV:=some (.dat (.sl (.int .i32)) s2 (some (2,21)))
def qei (k0:List Int→Option AV) (next:List Int→Int→Int→Option AV) (_n:Nat) (t3:List Int) (s10:Int) (s11:Int):Option AV :=
 bif (decide (s11 < s10)) then
 bif ((decide ((0:Int)≤s11))&&(decide (s11 < (List.length t3:Nat)))) then
 bif ((decide ((0:Int)≤s11))&&(decide (s11 < (List.length t3:Nat)))) then
 next (List.set t3 (Int.toNat s11) (z138 (List.getD t3 (Int.toNat s11) (0:Int)))) s10 (IntKind.wrap .i64 (s11+(1:Int)))
 else none
 else none
 else
 k0 t3
def qkU (k0:List Int→Option AV):Nat→List Int→Int→Int→Option AV
 | 0=>fun _ _ _=>none
 | n+1=>qei k0 (qkU k0 n) n
def qge (_n:Nat) (t3:List Int):Option AV :=
 qsr t3
def qwj (n:Nat) (s0:List UInt8):Option AV :=
 bif ((qnQ s0)&&true) then
 qkU (qge n) n (z97 s0) ((List.length (z97 s0):Nat):Int) (0:Int)
 else none
def qss (s0:List (UInt8×(Int×Unit))):Option AV:=some (.dat (.arr 8 (.pair .byte (.pair (.int .i32) .unit))) s0 none)
def qxy (_n:Nat):Option AV :=
 qss ([((164:UInt8),((8364:Int),())),((166:UInt8),((352:Int),())),((168:UInt8),((353:Int),())),((180:UInt8),((381:Int),())),((184:UInt8),((382:Int),())),((188:UInt8),((338:Int),())),((189:UInt8),((339:Int),())),((190:UInt8),((376:Int),()))]:List (UInt8×(Int×Unit)))
def qam (s2:Int):Option AV:=some (.dat (.int .i32) s2 none)
def qmB (ret:Int→Option AV) (k0:UInt8→Option AV) (next:UInt8→List (UInt8×(Int×Unit))→Int→Option AV) (_n:Nat) (x0:UInt8) (s5:List (UInt8×(Int×Unit))) (s6:Int):Option AV :=
 bif (decide (s6 < (8:Int))) then
 bif ((decide ((0:Int)≤s6))&&(decide (s6 < (8:Nat)))) then
 bif ((List.getD s5 (Int.toNat s6) ((0:UInt8),((0:Int),()))).1==x0) then
 ret (List.getD s5 (Int.toNat s6) ((0:UInt8),((0:Int),()))).2.1
 else
 next x0 s5 (IntKind.wrap .i64 (s6+(1:Int)))
 else none
 else
 k0 x0
def qgP (ret:Int→Option AV) (k0:UInt8→Option AV):Nat→UInt8→List (UInt8×(Int×Unit))→Int→Option AV
 | 0=>fun _ _ _=>none
 | n+1=>qmB ret k0 (qgP ret k0 n) n
def qff (_n:Nat) (x0:UInt8):Option AV :=
 qam (IntKind.wrap .i32 ((UInt8.toNat x0:Nat):Int))
def qmC (n:Nat) (x0:UInt8):Option AV :=
 qgP qam (qff n) n x0 z185 (0:Int)
def qxz (s2:List Int):Option AV:=some (.dat (.sl (.int .i32)) s2 (some (2,21)))
def qej (k0:List Int→Option AV) (next:List Int→List UInt8→Int→Int→Option AV) (_n:Nat) (t3:List Int) (s6:List UInt8) (s7:Int) (s8:Int):Option AV :=
 bif (decide (s8 < s7)) then
 bif ((decide ((0:Int)≤s8))&&(decide (s8 < (List.length s6:Nat)))) then
 bif (decide (List.length t3+List.length ([(z139 (List.getD s6 (Int.toNat s8) (0:UInt8)))]:List Int)≤room)) then
 next (t3++([(z139 (List.getD s6 (Int.toNat s8) (0:UInt8)))]:List Int)) s6 s7 (IntKind.wrap .i64 (s8+(1:Int)))
 else none
 else none
 else
 k0 t3
def qkV (k0:List Int→Option AV):Nat→List Int→List UInt8→Int→Int→Option AV
 | 0=>fun _ _ _ _=>none
 | n+1=>qej k0 (qkV k0 n) n
def qek (_n:Nat) (t3:List Int):Option AV :=
 qxz t3
def qwk (n:Nat) (s0:List UInt8):Option AV :=
 qkV (qek n) n ([]:List Int) s0 ((List.length s0:Nat):Int) (0:Int)
def qst (s0:List Int):Option AV:=some (.dat (.sl (.int .i32)) s0 none)
def qxA (_n:Nat):Option AV :=
 qst (List.drop 0 (List.take 32 ([(8364:Int),(0:Int),(8218:Int),(402:Int),(8222:Int),(8230:Int),(8224:Int),(8225:Int),(710:Int),(8240:Int),(352:Int),(8249:Int),(338:Int),(0:Int),(381:Int),(0:Int),(0:Int),(8216:Int),(8217:Int),(8220:Int),(8221:Int),(8226:Int),(8211:Int),(8212:Int),(732:Int),(8482:Int),(353:Int),(8250:Int),(339:Int),(0:Int),(382:Int),(376:Int)]:List Int)))
def qgf (s2:Int):Option AV:=some (.dat (.int .i32) s2 none)
def qsu (_n:Nat) (x0:UInt8):Option AV :=
 bif (decide (x0 < (128:UInt8))) then
 qgf (IntKind.wrap .i32 ((UInt8.toNat x0:Nat):Int))
 else
 bif (decide ((160:UInt8)≤x0)) then
 qgf (IntKind.wrap .i32 ((UInt8.toNat x0:Nat):Int))
 else
 bif ((decide ((0:Int)≤((UInt8.toNat (x0 - (128:UInt8)):Nat):Int)))&&(decide (((UInt8.toNat (x0 - (128:UInt8)):Nat):Int) < (List.length z186:Nat)))) then
 bif ((List.getD z186 (Int.toNat ((UInt8.toNat (x0 - (128:UInt8)):Nat):Int)) (0:Int)) != (0:Int)) then
 qgf (List.getD z186 (Int.toNat ((UInt8.toNat (x0 - (128:UInt8)):Nat):Int)) (0:Int))
 else
 qgf (65533:Int)
 else none
def qxB (s2:List Int):Option AV:=some (.dat (.sl (.int .i32)) s2 (some (2,21)))
def qel (k0:List Int→Option AV) (next:List Int→List UInt8→Int→Int→Option AV) (_n:Nat) (t3:List Int) (s9:List UInt8) (s10:Int) (s11:Int):Option AV :=
 bif (decide (s11 < s10)) then
 bif ((decide ((0:Int)≤s11))&&(decide (s11 < (List.length s9:Nat)))) then
 bif (decide (List.length t3+List.length ([(z140 (List.getD s9 (Int.toNat s11) (0:UInt8)))]:List Int)≤room)) then
 next (t3++([(z140 (List.getD s9 (Int.toNat s11) (0:UInt8)))]:List Int)) s9 s10 (IntKind.wrap .i64 (s11+(1:Int)))
 else none
 else none
 else
 k0 t3
def qkW (k0:List Int→Option AV):Nat→List Int→List UInt8→Int→Int→Option AV
 | 0=>fun _ _ _ _=>none
 | n+1=>qel k0 (qkW k0 n) n
def qem (_n:Nat) (t3:List Int):Option AV :=
 qxB t3
def qwl (n:Nat) (s0:List UInt8):Option AV :=
 bif (((decide ((0:Int)≤(0:Int)))&&(decide ((0:Int)≤((List.length s0:Nat):Int))))&&(decide (((List.length s0:Nat):Int)≤(room:Int)))) then
 qkW (qem n) n (List.replicate (Int.toNat (0:Int)) (0:Int)) s0 ((List.length s0:Nat):Int) (0:Int)
 else none
def qkX (s13:List Int):Option AV:=some (.tup [(.tup []),.bad,.bad,(.pbox (.osl 21 (.int .i32)) s13 none)])
def qsv (_n:Nat) (c0:Int) (e1:Int) (x2:List Int):Option AV :=
 bif (e1 != (0:Int)) then
 bif (decide (List.length x2+List.length ([(65533:Int)]:List Int)≤room)) then
 qkX (x2++([(65533:Int)]:List Int))
 else none
 else
 bif (decide (List.length x2+List.length ([c0]:List Int)≤room)) then
 qkX (x2++([c0]:List Int))
 else none
def qcV (s2:Int):Option AV:=some (.dat (.int .i64) s2 none)
def qsw (_n:Nat) (c0:UInt8):Option AV :=
 bif (decide (c0 < (128:UInt8))) then
 qcV (1:Int)
 else
 bif (decide (c0 < (194:UInt8))) then
 qcV (0:Int)
 else
 bif (decide ((244:UInt8) < c0)) then
 qcV (0:Int)
 else
 bif (decide (c0 < (224:UInt8))) then
 qcV (2:Int)
 else
 bif (decide (c0 < (240:UInt8))) then
 qcV (3:Int)
 else
 qcV (4:Int)
def qsx (s2:Bool):Option AV:=some (.dat .bool s2 none)
def qsy (_n:Nat) (c0:UInt8):Option AV :=
 qsx ((c0 &&& ~~~ (63:UInt8))==(128:UInt8))
def qbh (s4:Bool):Option AV:=some (.dat .bool s4 none)
def qsz (_n:Nat) (first0:UInt8) (c1:UInt8):Option AV :=
 bif (first0==(224:UInt8)) then
 bif (decide ((160:UInt8)≤c1)) then
 qbh (z235 c1)
 else
 qbh false
 else
 bif (first0==(237:UInt8)) then
 bif (decide (c1 < (160:UInt8))) then
 qbh (z235 c1)
 else
 qbh false
 else
 bif (first0==(240:UInt8)) then
 bif (decide ((144:UInt8)≤c1)) then
 qbh (z235 c1)
 else
 qbh false
 else
 bif (first0==(244:UInt8)) then
 bif (decide (c1 < (144:UInt8))) then
 qbh (z235 c1)
 else
 qbh false
 else
 qbh (z235 c1)
def qan (s2:Int):Option AV:=some (.dat (.int .i64) s2 none)
def qaR (ret:Int→Option AV) (k0:List UInt8→Int→Option AV) (next:List UInt8→Int→Option AV) (_n:Nat) (s0:List UInt8) (n3:Int):Option AV :=
 bif ((decide ((0:Int)≤(0:Int)))&&(decide ((0:Int) < (List.length s0:Nat)))) then
 bif (decide (n3 < (z217 (List.getD s0 (Int.toNat (0:Int)) (0:UInt8))))) then
 bif (decide (n3 < ((List.length s0:Nat):Int))) then
 bif ((decide ((0:Int)≤n3))&&(decide (n3 < (List.length s0:Nat)))) then
 bif (!(z235 (List.getD s0 (Int.toNat n3) (0:UInt8)))) then
 ret n3
 else
 bif (n3==(1:Int)) then
 bif ((decide ((0:Int)≤(0:Int)))&&(decide ((0:Int) < (List.length s0:Nat)))) then
 bif ((decide ((0:Int)≤(1:Int)))&&(decide ((1:Int) < (List.length s0:Nat)))) then
 bif (!(z236 (List.getD s0 (Int.toNat (0:Int)) (0:UInt8)) (List.getD s0 (Int.toNat (1:Int)) (0:UInt8)))) then
 ret n3
 else
 next s0 (IntKind.wrap .i64 (n3+(1:Int)))
 else none
 else none
 else
 next s0 (IntKind.wrap .i64 (n3+(1:Int)))
 else none
 else
 k0 s0 n3
 else
 k0 s0 n3
 else none
def qeA (ret:Int→Option AV) (k0:List UInt8→Int→Option AV):Nat→List UInt8→Int→Option AV
 | 0=>fun _ _=>none
 | n+1=>qaR ret k0 (qeA ret k0 n) n
def qR (_n:Nat) (s0:List UInt8) (n3:Int):Option AV :=
 bif ((decide ((0:Int)≤(0:Int)))&&(decide ((0:Int) < (List.length s0:Nat)))) then
 qan (bif (decide ((z217 (List.getD s0 (Int.toNat (0:Int)) (0:UInt8))) < n3)) then (z217 (List.getD s0 (Int.toNat (0:Int)) (0:UInt8))) else n3)
 else none
def qmD (n:Nat) (s0:List UInt8):Option AV :=
 qeA qan (qR n) n s0 (1:Int)
def qgg (s2:UInt8):Option AV:=some (.dat .byte s2 none)
def qsA (_n:Nat) (n0:Int):Option AV :=
 bif (n0==(2:Int)) then
 qgg (192:UInt8)
 else
 bif (n0==(3:Int)) then
 qgg (224:UInt8)
 else
 bif (n0==(4:Int)) then
 qgg (240:UInt8)
 else
 qgg (0:UInt8)
def qbB (s2:Int) (s3:Int) (s4:Int):Option AV:=some (.tup [(.dat (.int .i32) s2 none),(.dat (.int .i64) s3 none),(.dat (.int .i64) s4 none)])
def qbr (k1:Int→Int→Option AV) (next:Int→Int→List UInt8→Int→Int→Option AV) (_n:Nat) (n5:Int) (c6:Int) (s48:List UInt8) (s49:Int) (s50:Int):Option AV :=
 bif (decide (s50 < s49)) then
 bif ((decide ((0:Int)≤s50))&&(decide (s50 < (List.length s48:Nat)))) then
 next n5 (bits .or .i32 (IntKind.wrap .i32 (c6*2 ^ (min (Int.toNat (6:Int)) (IntKind.bits .i32)))) (IntKind.wrap .i32 ((UInt8.toNat ((List.getD s48 (Int.toNat s50) (0:UInt8)) &&& (63:UInt8)):Nat):Int))) s48 s49 (IntKind.wrap .i64 (s50+(1:Int)))
 else none
 else
 k1 n5 c6
def qca (k1:Int→Int→Option AV):Nat→Int→Int→List UInt8→Int→Int→Option AV
 | 0=>fun _ _ _ _ _=>none
 | n+1=>qbr k1 (qca k1 n) n
def qbs (_n:Nat) (n5:Int) (c6:Int):Option AV :=
 qbB c6 n5 (0:Int)
def qmE (n:Nat) (s0:List UInt8):Option AV :=
 bif (((List.length s0:Nat):Int)==(0:Int)) then
 qbB (0:Int) (0:Int) (4:Int)
 else
 bif ((qgK s0)&&true) then
 bif ((z216 s0)==(0:Int)) then
 qbB (0:Int) (1:Int) (3:Int)
 else
 bif ((decide ((0:Int)≤(0:Int)))&&(decide ((0:Int) < (List.length s0:Nat)))) then
 bif (decide ((z216 s0) < (z217 (List.getD s0 (Int.toNat (0:Int)) (0:UInt8))))) then
 bif ((z216 s0)==((List.length s0:Nat):Int)) then
 qbB (0:Int) (z216 s0) (4:Int)
 else
 bif ((decide ((0:Int)≤(0:Int)))&&(decide ((0:Int) < (List.length s0:Nat)))) then
 bif (decide ((z216 s0) < (z217 (List.getD s0 (Int.toNat (0:Int)) (0:UInt8))))) then
 qbB (0:Int) (z216 s0) (3:Int)
 else
 bif ((decide ((0:Int)≤(0:Int)))&&(decide ((0:Int) < (List.length s0:Nat)))) then
 bif (((decide ((0:Int)≤(1:Int)))&&(decide ((1:Int)≤(z216 s0))))&&(decide ((z216 s0)≤((List.length s0:Nat):Int)))) then
 qca (qbs n) n (z216 s0) (IntKind.wrap .i32 ((UInt8.toNat ((List.getD s0 (Int.toNat (0:Int)) (0:UInt8)) &&& ~~~ (z218 (z216 s0))):Nat):Int)) (List.drop (Int.toNat (1:Int)) (List.take (Int.toNat (z216 s0)) s0)) ((List.length (List.drop (Int.toNat (1:Int)) (List.take (Int.toNat (z216 s0)) s0)):Nat):Int) (0:Int)
 else none
 else none
 else none
 else
 bif ((decide ((0:Int)≤(0:Int)))&&(decide ((0:Int) < (List.length s0:Nat)))) then
 bif (decide ((z216 s0) < (z217 (List.getD s0 (Int.toNat (0:Int)) (0:UInt8))))) then
 qbB (0:Int) (z216 s0) (3:Int)
 else
 bif ((decide ((0:Int)≤(0:Int)))&&(decide ((0:Int) < (List.length s0:Nat)))) then
 bif (((decide ((0:Int)≤(1:Int)))&&(decide ((1:Int)≤(z216 s0))))&&(decide ((z216 s0)≤((List.length s0:Nat):Int)))) then
 qca (qbs n) n (z216 s0) (IntKind.wrap .i32 ((UInt8.toNat ((List.getD s0 (Int.toNat (0:Int)) (0:UInt8)) &&& ~~~ (z218 (z216 s0))):Nat):Int)) (List.drop (Int.toNat (1:Int)) (List.take (Int.toNat (z216 s0)) s0)) ((List.length (List.drop (Int.toNat (1:Int)) (List.take (Int.toNat (z216 s0)) s0)):Nat):Int) (0:Int)
 else none
 else none
 else none
 else none
 else none
def qao (s24:List Int):Option AV:=some (.tup [(.tup []),.bad,(.pbox (.osl 21 (.int .i32)) s24 none)])
def qbC (k0:List Int→Option AV) (next:List UInt8→List Int→Option AV) (_n:Nat) (s0:List UInt8) (s24:List Int):Option AV :=
 bif (decide ((0:Int) < ((List.length s0:Nat):Int))) then
 bif ((qmf s0)&&true) then
 bif (qmo ((z187 s0).1) ((z187 s0).2.2) s24) then
 bif (((decide ((0:Int)≤((z187 s0).2.1)))&&(decide (((z187 s0).2.1)≤((List.length s0:Nat):Int))))&&(decide (((List.length s0:Nat):Int)≤((List.length s0:Nat):Int)))) then
 next (List.drop (Int.toNat ((z187 s0).2.1)) (List.take (Int.toNat ((List.length s0:Nat):Int)) s0)) (z142 ((z187 s0).1) ((z187 s0).2.2) s24)
 else none
 else none
 else none
 else
 k0 s24
def qau (k0:List Int→Option AV):Nat→List UInt8→List Int→Option AV
 | 0=>fun _ _=>none
 | n+1=>qbC k0 (qau k0 n) n
def qap (_n:Nat) (s24:List Int):Option AV :=
 qao s24
def qgh (n:Nat) (s0:List UInt8) (f1:List Int):Option AV :=
 qau (qap n) n s0 f1
def qxC (s2:List Int):Option AV:=some (.dat (.sl (.int .i32)) s2 none)
def qzG (_n:Nat) (s0:List UInt8):Option AV :=
 bif (qbp s0 ([]:List Int)) then
 qxC (qrv s0 ([]:List Int))
 else none
def qgQ (s4:List Int):Option AV:=some (.dat (.sl (.int .i32)) s4 none)
def qzH (_n:Nat) (charset0:Int) (s1:List UInt8):Option AV :=
 bif (charset0==(1:Int)) then
 bif ((qvj s1)&&true) then
 qgQ (z93 s1)
 else none
 else
 bif (charset0==(3:Int)) then
 bif ((qvh s1)&&true) then
 qgQ (z94 s1)
 else none
 else
 bif (charset0==(4:Int)) then
 bif ((qvi s1)&&true) then
 qgQ (z95 s1)
 else none
 else
 bif (charset0==(5:Int)) then
 bif ((qvg s1)&&true) then
 qgQ (z96 s1)
 else none
 else
 bif ((qnQ s1)&&true) then
 qgQ (z97 s1)
 else none
def qsB (s0:List ((List UInt8)×Int)):Option AV:=some (.abs (.sl (.pair .str (.int .i64))) (qah .str (.int .i64)) s0)
def qmF (k2:List ((List UInt8)×Int)→Int→Option AV) (next:List ((List UInt8)×Int)→Int→List (List UInt8)→Int→Int→Option AV) (_n:Nat) (m1:List ((List UInt8)×Int)) (n2:Int) (s11:List (List UInt8)) (s12:Int) (s13:Int):Option AV :=
 bif (decide (s13 < s12)) then
 bif ((decide ((0:Int)≤s13))&&(decide (s13 < (List.length s11:Nat)))) then
 next (@putM .str (.int .i64) (List.getD s11 (Int.toNat s13) ([]:List UInt8)) n2 m1) n2 s11 s12 (IntKind.wrap .i64 (s13+(1:Int)))
 else none
 else
 k2 m1 n2
def qgR (k2:List ((List UInt8)×Int)→Int→Option AV):Nat→List ((List UInt8)×Int)→Int→List (List UInt8)→Int→Int→Option AV
 | 0=>fun _ _ _ _ _=>none
 | n+1=>qmF k2 (qgR k2 n) n
def qfg (_k0:List ((List UInt8)×Int)→Option AV) (next:List ((List UInt8)×Int)→Int→Option AV) (_n:Nat) (m1:List ((List UInt8)×Int)) (n2:Int):Option AV :=
 next m1 (IntKind.wrap .i64 (n2+(1:Int)))
def qih (k0:List ((List UInt8)×Int)→Option AV) (next:List ((List UInt8)×Int)→Int→Option AV) (n:Nat) (m1:List ((List UInt8)×Int)) (n2:Int):Option AV :=
 bif (decide (n2≤(5:Int))) then
 qgR (qfg k0 next n) n m1 n2 (z133 n2) ((List.length (z133 n2):Nat):Int) (0:Int)
 else
 k0 m1
def qgS (k0:List ((List UInt8)×Int)→Option AV):Nat→List ((List UInt8)×Int)→Int→Option AV
 | 0=>fun _ _=>none
 | n+1=>qih k0 (qgS k0 n) n
def qfh (_n:Nat) (m1:List ((List UInt8)×Int)):Option AV :=
 qsB m1
def qsC (n:Nat):Option AV :=
 qgS (qfh n) n ([]:List ((List UInt8)×Int)) (1:Int)
def qkY (s4:List UInt8):Option AV:=some (.dat (.sl .byte) s4 none)
def qmG (k0:List UInt8→Option AV) (next:List UInt8→UInt8→Option AV) (_n:Nat) (s0:List UInt8) (c1:UInt8):Option AV :=
 bif (decide ((0:Int) < ((List.length s0:Nat):Int))) then
 bif ((decide ((0:Int)≤(0:Int)))&&(decide ((0:Int) < (List.length s0:Nat)))) then
 bif ((List.getD s0 (Int.toNat (0:Int)) (0:UInt8))==c1) then
 bif (((decide ((0:Int)≤(1:Int)))&&(decide ((1:Int)≤((List.length s0:Nat):Int))))&&(decide (((List.length s0:Nat):Int)≤((List.length s0:Nat):Int)))) then
 next (List.drop (Int.toNat (1:Int)) (List.take (Int.toNat ((List.length s0:Nat):Int)) s0)) c1
 else none
 else
 k0 s0
 else none
 else
 k0 s0
def qgT (k0:List UInt8→Option AV):Nat→List UInt8→UInt8→Option AV
 | 0=>fun _ _=>none
 | n+1=>qmG k0 (qgT k0 n) n
def qfi (_n:Nat) (s0:List UInt8):Option AV :=
 bif (((List.length s0:Nat):Int)==(0:Int)) then
 qkY ([]:List UInt8)
 else
 qkY s0
def qsD (n:Nat) (s0:List UInt8) (c1:UInt8):Option AV :=
 qgT (qfi n) n s0 c1
def qsE (s4:List UInt8):Option AV:=some (.dat (.sl .byte) s4 none)
def qmH (k0:List UInt8→Option AV) (next:List UInt8→UInt8→Option AV) (_n:Nat) (s0:List UInt8) (c1:UInt8):Option AV :=
 bif (decide ((0:Int) < ((List.length s0:Nat):Int))) then
 bif ((decide ((0:Int)≤(IntKind.wrap .i64 (((List.length s0:Nat):Int) - (1:Int)))))&&(decide ((IntKind.wrap .i64 (((List.length s0:Nat):Int) - (1:Int))) < (List.length s0:Nat)))) then
 bif ((List.getD s0 (Int.toNat (IntKind.wrap .i64 (((List.length s0:Nat):Int) - (1:Int)))) (0:UInt8))==c1) then
 bif (((decide ((0:Int)≤((0:Nat):Int)))&&(decide (((0:Nat):Int)≤(IntKind.wrap .i64 (((List.length s0:Nat):Int) - (1:Int))))))&&(decide ((IntKind.wrap .i64 (((List.length s0:Nat):Int) - (1:Int)))≤((List.length s0:Nat):Int)))) then
 next (List.drop (Int.toNat ((0:Nat):Int)) (List.take (Int.toNat (IntKind.wrap .i64 (((List.length s0:Nat):Int) - (1:Int)))) s0)) c1
 else none
 else
 k0 s0
 else none
 else
 k0 s0
def qgU (k0:List UInt8→Option AV):Nat→List UInt8→UInt8→Option AV
 | 0=>fun _ _=>none
 | n+1=>qmH k0 (qgU k0 n) n
def qfj (_n:Nat) (s0:List UInt8):Option AV :=
 qsE s0
def qsF (n:Nat) (s0:List UInt8) (c1:UInt8):Option AV :=
 qgU (qfj n) n s0 c1
def qgi (as2:List Bool) (ok3:Bool):Option AV:=some (.tup [(.dat (.arr 256 .bool) as2 none),(.dat .bool ok3 none)])
def qco (ret:List Bool→Bool→Option AV) (k0:List Bool→Option AV) (next:List UInt8→List Bool→Int→Option AV) (_n:Nat) (chars0:List UInt8) (as2:List Bool) (i4:Int):Option AV :=
 bif (decide (i4 < ((List.length chars0:Nat):Int))) then
 bif ((decide ((0:Int)≤i4))&&(decide (i4 < (List.length chars0:Nat)))) then
 bif (decide ((128:UInt8)≤(List.getD chars0 (Int.toNat i4) (0:UInt8)))) then
 ret as2 false
 else
 bif ((decide ((0:Int)≤((UInt8.toNat (List.getD chars0 (Int.toNat i4) (0:UInt8)):Nat):Int)))&&(decide (((UInt8.toNat (List.getD chars0 (Int.toNat i4) (0:UInt8)):Nat):Int) < (256:Nat)))) then
 next chars0 (List.set as2 (Int.toNat ((UInt8.toNat (List.getD chars0 (Int.toNat i4) (0:UInt8)):Nat):Int)) true) (IntKind.wrap .i64 (i4+(1:Int)))
 else none
 else none
 else
 k0 as2
def qdC (ret:List Bool→Bool→Option AV) (k0:List Bool→Option AV):Nat→List UInt8→List Bool→Int→Option AV
 | 0=>fun _ _ _=>none
 | n+1=>qco ret k0 (qdC ret k0 n) n
def qdD (_n:Nat) (as2:List Bool):Option AV :=
 qgi as2 true
def qsG (n:Nat) (chars0:List UInt8):Option AV :=
 qdC qgi (qdD n) n chars0 (List.replicate 256 false) (0:Int)
def qsH (s4:Bool):Option AV:=some (.dat .bool s4 none)
def qsI (_n:Nat) (as0:List Bool) (c1:UInt8):Option AV :=
 bif ((decide ((0:Int)≤((UInt8.toNat c1:Nat):Int)))&&(decide (((UInt8.toNat c1:Nat):Int) < (256:Nat)))) then
 qsH (List.getD as0 (Int.toNat ((UInt8.toNat c1:Nat):Int)) false)
 else none
def qkZ (s4:List UInt8):Option AV:=some (.dat (.sl .byte) s4 none)
def qfk (k0:List UInt8→Option AV) (next:List UInt8→List Bool→Option AV) (_n:Nat) (s0:List UInt8) (as1:List Bool):Option AV :=
 bif (decide ((0:Int) < ((List.length s0:Nat):Int))) then
 bif ((decide ((0:Int)≤(0:Int)))&&(decide ((0:Int) < (List.length s0:Nat)))) then
 bif (!(z238 as1 (List.getD s0 (Int.toNat (0:Int)) (0:UInt8)))) then
 k0 s0
 else
 bif (((decide ((0:Int)≤(1:Int)))&&(decide ((1:Int)≤((List.length s0:Nat):Int))))&&(decide (((List.length s0:Nat):Int)≤((List.length s0:Nat):Int)))) then
 next (List.drop (Int.toNat (1:Int)) (List.take (Int.toNat ((List.length s0:Nat):Int)) s0)) as1
 else none
 else none
 else
 k0 s0
def qeB (k0:List UInt8→Option AV):Nat→List UInt8→List Bool→Option AV
 | 0=>fun _ _=>none
 | n+1=>qfk k0 (qeB k0 n) n
def qdE (_n:Nat) (s0:List UInt8):Option AV :=
 bif (((List.length s0:Nat):Int)==(0:Int)) then
 qkZ ([]:List UInt8)
 else
 qkZ s0
def qmI (n:Nat) (s0:List UInt8) (as1:List Bool):Option AV :=
 qeB (qdE n) n s0 as1
def qsJ (s4:List UInt8):Option AV:=some (.dat (.sl .byte) s4 none)
def qfl (k0:List UInt8→Option AV) (next:List UInt8→List Bool→Option AV) (_n:Nat) (s0:List UInt8) (as1:List Bool):Option AV :=
 bif (decide ((0:Int) < ((List.length s0:Nat):Int))) then
 bif ((decide ((0:Int)≤(IntKind.wrap .i64 (((List.length s0:Nat):Int) - (1:Int)))))&&(decide ((IntKind.wrap .i64 (((List.length s0:Nat):Int) - (1:Int))) < (List.length s0:Nat)))) then
 bif (!(z238 as1 (List.getD s0 (Int.toNat (IntKind.wrap .i64 (((List.length s0:Nat):Int) - (1:Int)))) (0:UInt8)))) then
 k0 s0
 else
 bif (((decide ((0:Int)≤((0:Nat):Int)))&&(decide (((0:Nat):Int)≤(IntKind.wrap .i64 (((List.length s0:Nat):Int) - (1:Int))))))&&(decide ((IntKind.wrap .i64 (((List.length s0:Nat):Int) - (1:Int)))≤((List.length s0:Nat):Int)))) then
 next (List.drop (Int.toNat ((0:Nat):Int)) (List.take (Int.toNat (IntKind.wrap .i64 (((List.length s0:Nat):Int) - (1:Int)))) s0)) as1
 else none
 else none
 else
 k0 s0
def qeC (k0:List UInt8→Option AV):Nat→List UInt8→List Bool→Option AV
 | 0=>fun _ _=>none
 | n+1=>qfl k0 (qeC k0 n) n
def qfm (_n:Nat) (s0:List UInt8):Option AV :=
 qsJ s0
def qmJ (n:Nat) (s0:List UInt8) (as1:List Bool):Option AV :=
 qeC (qfm n) n s0 as1
def qcb (s4:List UInt8):Option AV:=some (.dat (.sl .byte) s4 none)
def qsK (_n:Nat) (s0:List UInt8) (cutset1:List UInt8):Option AV :=
 bif (((List.length s0:Nat):Int)==(0:Int)) then
 qcb ([]:List UInt8)
 else
 bif (cutset1==([]:List UInt8)) then
 qcb s0
 else
 bif (((List.length cutset1:Nat):Int)==(1:Int)) then
 bif ((decide ((0:Int)≤(0:Int)))&&(decide ((0:Int) < (List.length cutset1:Nat)))) then
 bif (decide ((List.getD cutset1 (Int.toNat (0:Int)) (0:UInt8)) < (128:UInt8))) then
 bif ((decide ((0:Int)≤(0:Int)))&&(decide ((0:Int) < (List.length cutset1:Nat)))) then
 bif ((decide ((0:Int)≤(0:Int)))&&(decide ((0:Int) < (List.length cutset1:Nat)))) then
 bif ((qtr s0 (List.getD cutset1 (Int.toNat (0:Int)) (0:UInt8)))&&true) then
 bif ((qtq (z222 s0 (List.getD cutset1 (Int.toNat (0:Int)) (0:UInt8))) (List.getD cutset1 (Int.toNat (0:Int)) (0:UInt8)))&&true) then
 qcb (z221 (z222 s0 (List.getD cutset1 (Int.toNat (0:Int)) (0:UInt8))) (List.getD cutset1 (Int.toNat (0:Int)) (0:UInt8)))
 else none
 else none
 else none
 else none
 else
 bif ((qgs cutset1)&&true) then
 bif ((z223 cutset1).2) then
 bif ((qjJ s0 ((z223 cutset1).1))&&true) then
 bif ((qjI (z225 s0 ((z223 cutset1).1)) ((z223 cutset1).1))&&true) then
 qcb (z224 (z225 s0 ((z223 cutset1).1)) ((z223 cutset1).1))
 else none
 else none
 else
 bif ((qtt s0 cutset1)&&true) then
 bif ((qts (z227 s0 cutset1) cutset1)&&true) then
 qcb (z226 (z227 s0 cutset1) cutset1)
 else none
 else none
 else none
 else none
 else
 bif ((qgs cutset1)&&true) then
 bif ((z223 cutset1).2) then
 bif ((qjJ s0 ((z223 cutset1).1))&&true) then
 bif ((qjI (z225 s0 ((z223 cutset1).1)) ((z223 cutset1).1))&&true) then
 qcb (z224 (z225 s0 ((z223 cutset1).1)) ((z223 cutset1).1))
 else none
 else none
 else
 bif ((qtt s0 cutset1)&&true) then
 bif ((qts (z227 s0 cutset1) cutset1)&&true) then
 qcb (z226 (z227 s0 cutset1) cutset1)
 else none
 else none
 else none
def qsL (s2:List UInt8):Option AV:=some (.dat (.sl .byte) s2 (some (2,5)))
def qsM (_n:Nat) (s0:List UInt8):Option AV :=
 bif ((qhc s0 ([32,9]:List UInt8))&&true) then
 bif ((qcY (z190 s0 ([32,9]:List UInt8)))&&true) then
 qsL (z38 (z190 s0 ([32,9]:List UInt8)))
 else none
 else none
def qla (s2:List UInt8):Option AV:=some (.dat (.sl .byte) s2 (some (2,5)))
def qsN (_n:Nat) (s0:List UInt8):Option AV :=
 bif (decide ((0:Int)≤(z109 s0 (42:UInt8)))) then
 bif (((decide ((0:Int)≤((0:Nat):Int)))&&(decide (((0:Nat):Int)≤(z109 s0 (42:UInt8)))))&&(decide ((z109 s0 (42:UInt8))≤((List.length s0:Nat):Int)))) then
 bif ((qhd (List.drop (Int.toNat ((0:Nat):Int)) (List.take (Int.toNat (z109 s0 (42:UInt8))) s0)))&&true) then
 qla (z148 (List.drop (Int.toNat ((0:Nat):Int)) (List.take (Int.toNat (z109 s0 (42:UInt8))) s0)))
 else none
 else none
 else
 bif ((qhd s0)&&true) then
 qla (z148 s0)
 else none
def qsO (s2:Int) (s3:Int):Option AV:=some (.tup [(.dat (.int .i64) s2 none),(.dat (.int .i64) s3 none)])
def qzI (_n:Nat) (s0:List UInt8):Option AV :=
 bif ((qmi s0)&&true) then
 bif ((qoi (z107 s0))&&true) then
 bif (!(Option.isSome (@findM .str (.int .i64) (z79 (z107 s0)) z106))) then
 qsO (0:Int) (10:Int)
 else
 qsO (Option.getD (@findM .str (.int .i64) (z79 (z107 s0)) z106) (0:Int)) (0:Int)
 else none
 else none
def qsP (s2:Int):Option AV:=some (.dat (.int .i64) s2 none)
def qzJ (_n:Nat) (w0:(List UInt8)×(Int×((List UInt8)×Unit))):Option AV :=
 bif ((qnS w0.1)&&true) then
 bif (((z58 w0.1).2) != (0:Int)) then
 qsP (2:Int)
 else
 qsP ((z58 w0.1).1)
 else none
def qlb (s2:Int) (s3:Bool):Option AV:=some (.tup [(.dat (.int .i64) s2 none),(.dat .bool s3 none)])
def qxD (_n:Nat) (c0:UInt8):Option AV :=
 qlb (bif (decide ((0:Int) > (z192 ([65,66,67,68,69,70,71,72,73,74,75,76,77,78,79,80,81,82,83,84,85,86,87,88,89,90,97,98,99,100,101,102,103,104,105,106,107,108,109,110,111,112,113,114,115,116,117,118,119,120,121,122,48,49,50,51,52,53,54,55,56,57,43,47]:List UInt8) c0))) then (0:Int) else (z192 ([65,66,67,68,69,70,71,72,73,74,75,76,77,78,79,80,81,82,83,84,85,86,87,88,89,90,97,98,99,100,101,102,103,104,105,106,107,108,109,110,111,112,113,114,115,116,117,118,119,120,121,122,48,49,50,51,52,53,54,55,56,57,43,47]:List UInt8) c0)) (decide ((0:Int)≤(z192 ([65,66,67,68,69,70,71,72,73,74,75,76,77,78,79,80,81,82,83,84,85,86,87,88,89,90,97,98,99,100,101,102,103,104,105,106,107,108,109,110,111,112,113,114,115,116,117,118,119,120,121,122,48,49,50,51,52,53,54,55,56,57,43,47]:List UInt8) c0)))
def qaH (V:Sigma Inv) (xv:Den V.1) (s29:List UInt8):Option AV:=some (.tup [(.tup []),(.abs V.1 V.2 xv),(.pbox (.leaf (.sl .byte)) s29 none)])
def qcp (V:Sigma Inv) (ret:Den V.1→List UInt8→Option AV) (k0:Den V.1→List UInt8→Option AV) (next:List UInt8→Int→Int→Den V.1→List UInt8→Option AV) (_n:Nat) (s7:List UInt8) (s8:Int) (s9:Int) (xv:Den V.1) (s29:List UInt8):Option AV :=
 bif (decide (s9 < s8)) then
 bif ((decide ((0:Int)≤s9))&&(decide (s9 < (List.length s7:Nat)))) then
 bif ((List.getD s7 (Int.toNat s9) (0:UInt8))==(61:UInt8)) then
 ret xv s29
 else
 bif (!((z150 (List.getD s7 (Int.toNat s9) (0:UInt8))).2)) then
 bif (V.2.spec xv [⟨.byte,(List.getD s7 (Int.toNat s9) (0:UInt8))⟩,⟨(.int .i64),(-1:Int)⟩]).1 then
 bif (!(V.2.spec xv [⟨.byte,(List.getD s7 (Int.toNat s9) (0:UInt8))⟩,⟨(.int .i64),(-1:Int)⟩]).2.1) then
 ret (V.2.spec xv [⟨.byte,(List.getD s7 (Int.toNat s9) (0:UInt8))⟩,⟨(.int .i64),(-1:Int)⟩]).2.2 s29
 else
 next s7 s8 (IntKind.wrap .i64 (s9+(1:Int))) (V.2.spec xv [⟨.byte,(List.getD s7 (Int.toNat s9) (0:UInt8))⟩,⟨(.int .i64),(-1:Int)⟩]).2.2 s29
 else none
 else
 bif (V.2.spec xv [⟨.byte,(List.getD s7 (Int.toNat s9) (0:UInt8))⟩,⟨(.int .i64),((z150 (List.getD s7 (Int.toNat s9) (0:UInt8))).1)⟩]).1 then
 bif (!(V.2.spec xv [⟨.byte,(List.getD s7 (Int.toNat s9) (0:UInt8))⟩,⟨(.int .i64),((z150 (List.getD s7 (Int.toNat s9) (0:UInt8))).1)⟩]).2.1) then
 ret (V.2.spec xv [⟨.byte,(List.getD s7 (Int.toNat s9) (0:UInt8))⟩,⟨(.int .i64),((z150 (List.getD s7 (Int.toNat s9) (0:UInt8))).1)⟩]).2.2 s29
 else
 next s7 s8 (IntKind.wrap .i64 (s9+(1:Int))) (V.2.spec xv [⟨.byte,(List.getD s7 (Int.toNat s9) (0:UInt8))⟩,⟨(.int .i64),((z150 (List.getD s7 (Int.toNat s9) (0:UInt8))).1)⟩]).2.2 s29
 else none
 else none
 else
 k0 xv s29
def qdF (V:Sigma Inv) (ret:Den V.1→List UInt8→Option AV) (k0:Den V.1→List UInt8→Option AV):Nat→List UInt8→Int→Int→Den V.1→List UInt8→Option AV
 | 0=>fun _ _ _ _ _=>none
 | n+1=>(qcp V) ret k0 ((qdF V) ret k0 n) n
def qbD (V:Sigma Inv) (_n:Nat) (xv:Den V.1) (s29:List UInt8):Option AV :=
 (qaH V) xv s29
def qmK (V:Sigma Inv) (n:Nat) (x0:Den V.1) (x1:List UInt8):Option AV :=
 (qdF V) (qaH V) ((qbD V) n) n x1 ((List.length x1:Nat):Int) (0:Int) x0 x1
def qDO (_n:Nat) (s0:List UInt8):Option AV :=
 some (.abs (qcP [.leaf (.sl .byte)]) (clInv 219 [.leaf (.sl .byte)]) (s0,()))
def qgj (s2:List UInt8) (s3:Int):Option AV:=some (.tup [(.dat (.sl .byte) s2 none),(.dat (.int .i64) s3 none)])
def qaI (n:Nat) (x:Bool×(List UInt8)×Int×Int×Unit) (y0:UInt8) (y1:Int):Bool×Bool×(Bool×(List UInt8)×Int×Int×Unit) :=
 bif x.1 then (false,false,x) else yfin (.pair (.sl .byte) (.pair (.int .i64) (.pair (.int .i64) .unit))) x (
 bif (decide (y1 < (0:Int))) then
 some (.dat (.pair .bool (.pair (.sl .byte) (.pair (.int .i64) (.pair (.int .i64) .unit)))) (false,(x.2.1,(x.2.2.1,(x.2.2.2.1,())))) none)
 else
 bif (decide ((8:Int)≤(IntKind.wrap .i64 (x.2.2.2.1+(6:Int))))) then
 bif (decide ((0:Int)≤(IntKind.wrap .i64 ((IntKind.wrap .i64 (x.2.2.2.1+(6:Int))) - (8:Int))))) then
 bif (decide (List.length x.2.1+List.length ([(UInt8.ofNat (Int.toNat (IntKind.wrap .u8 (Int.fdiv (bits .or .i64 (IntKind.wrap .i64 (x.2.2.1*2 ^ (min (Int.toNat (6:Int)) (IntKind.bits .i64)))) y1) (2 ^ (min (Int.toNat (IntKind.wrap .i64 ((IntKind.wrap .i64 (x.2.2.2.1+(6:Int))) - (8:Int)))) (IntKind.bits .i64)))))))]:List UInt8)≤room)) then
 bif (decide ((0:Int)≤(IntKind.wrap .i64 ((IntKind.wrap .i64 (x.2.2.2.1+(6:Int))) - (8:Int))))) then
 some (.dat (.pair .bool (.pair (.sl .byte) (.pair (.int .i64) (.pair (.int .i64) .unit)))) (false,((x.2.1++([(UInt8.ofNat (Int.toNat (IntKind.wrap .u8 (Int.fdiv (bits .or .i64 (IntKind.wrap .i64 (x.2.2.1*2 ^ (min (Int.toNat (6:Int)) (IntKind.bits .i64)))) y1) (2 ^ (min (Int.toNat (IntKind.wrap .i64 ((IntKind.wrap .i64 (x.2.2.2.1+(6:Int))) - (8:Int)))) (IntKind.bits .i64)))))))]:List UInt8)),((bits .and .i64 (bits .or .i64 (IntKind.wrap .i64 (x.2.2.1*2 ^ (min (Int.toNat (6:Int)) (IntKind.bits .i64)))) y1) (IntKind.wrap .i64 ((IntKind.wrap .i64 ((1:Int)*2 ^ (min (Int.toNat (IntKind.wrap .i64 ((IntKind.wrap .i64 (x.2.2.2.1+(6:Int))) - (8:Int)))) (IntKind.bits .i64)))) - (1:Int)))),((IntKind.wrap .i64 ((IntKind.wrap .i64 (x.2.2.2.1+(6:Int))) - (8:Int))),())))) none)
 else none
 else none
 else none
 else
 some (.dat (.pair .bool (.pair (.sl .byte) (.pair (.int .i64) (.pair (.int .i64) .unit)))) (false,(x.2.1,((bits .or .i64 (IntKind.wrap .i64 (x.2.2.1*2 ^ (min (Int.toNat (6:Int)) (IntKind.bits .i64)))) y1),((IntKind.wrap .i64 (x.2.2.2.1+(6:Int))),())))) none))
def qsQ (n:Nat) (s0:List UInt8):Option AV :=
 bif (z219 (qaI n) (false,(([]:List UInt8),((0:Int),((0:Int),())))) s0).1 then
 bif (z219 (qaI n) (false,(([]:List UInt8),((0:Int),((0:Int),())))) s0).2.1.1 then
 qgj ([]:List UInt8) (0:Int)
 else
 both (
 both (
 qgj (z219 (qaI n) (false,(([]:List UInt8),((0:Int),((0:Int),())))) s0).2.1.2.1 (z219 (qaI n) (false,(([]:List UInt8),((0:Int),((0:Int),())))) s0).2.1.2.2.2.1) (
 qgj (z219 (qaI n) (false,(([]:List UInt8),((0:Int),((0:Int),())))) s0).2.1.2.1 (z219 (qaI n) (false,(([]:List UInt8),((0:Int),((0:Int),())))) s0).2.1.2.2.2.1)) (
 qgj (z219 (qaI n) (false,(([]:List UInt8),((0:Int),((0:Int),())))) s0).2.1.2.1 (z219 (qaI n) (false,(([]:List UInt8),((0:Int),((0:Int),())))) s0).2.1.2.2.2.1)
 else none
def qxE (s2:List UInt8):Option AV:=some (.dat (.sl .byte) s2 none)
def qzK (_n:Nat) (s0:List UInt8):Option AV :=
 bif ((qml s0)&&true) then
 qxE ((z143 s0).1)
 else none
def qgk (s2:Int) (s3:Bool):Option AV:=some (.tup [(.dat (.int .i64) s2 none),(.dat .bool s3 none)])
def qsR (_n:Nat) (c0:UInt8):Option AV :=
 bif (z129 (z126 c0) (8:Int)) then
 qgk (IntKind.wrap .i64 ((UInt8.toNat ((z126 c0) - (48:UInt8)):Nat):Int)) true
 else
 bif (decide ((97:UInt8)≤(z126 c0))) then
 bif (decide ((z126 c0)≤(102:UInt8))) then
 qgk (IntKind.wrap .i64 ((IntKind.wrap .i64 ((UInt8.toNat ((z126 c0) - (97:UInt8)):Nat):Int))+(10:Int))) true
 else
 qgk (0:Int) false
 else
 qgk (0:Int) false
def qii (s4:UInt8) (s5:Bool):Option AV:=some (.tup [(.dat .byte s4 none),(.dat .bool s5 none)])
def qsS (_n:Nat) (a0:UInt8) (b1:UInt8):Option AV :=
 bif (!((z237 a0).2)) then
 qii (0:UInt8) false
 else
 bif (!((z237 b1).2)) then
 qii (0:UInt8) false
 else
 qii (UInt8.ofNat (Int.toNat (IntKind.wrap .u8 (bits .or .i64 (IntKind.wrap .i64 (((z237 a0).1)*2 ^ (min (Int.toNat (4:Int)) (IntKind.bits .i64)))) ((z237 b1).1))))) true
def qgl (s6:UInt8) (s7:Bool):Option AV:=some (.tup [(.dat .byte s6 none),(.dat .bool s7 none)])
def qsT (_n:Nat) (s0:List UInt8) (at1:Int) (sign2:UInt8):Option AV :=
 bif (decide (at1 < (0:Int))) then
 qgl (0:UInt8) false
 else
 bif (decide ((IntKind.wrap .i64 (((List.length s0:Nat):Int) - (3:Int))) < at1)) then
 qgl (0:UInt8) false
 else
 bif ((decide ((0:Int)≤at1))&&(decide (at1 < (List.length s0:Nat)))) then
 bif ((List.getD s0 (Int.toNat at1) (0:UInt8)) != sign2) then
 qgl (0:UInt8) false
 else
 bif ((decide ((0:Int)≤(IntKind.wrap .i64 (at1+(1:Int)))))&&(decide ((IntKind.wrap .i64 (at1+(1:Int))) < (List.length s0:Nat)))) then
 bif ((decide ((0:Int)≤(IntKind.wrap .i64 (at1+(2:Int)))))&&(decide ((IntKind.wrap .i64 (at1+(2:Int))) < (List.length s0:Nat)))) then
 qgl ((z220 (List.getD s0 (Int.toNat (IntKind.wrap .i64 (at1+(1:Int)))) (0:UInt8)) (List.getD s0 (Int.toNat (IntKind.wrap .i64 (at1+(2:Int)))) (0:UInt8))).1) ((z220 (List.getD s0 (Int.toNat (IntKind.wrap .i64 (at1+(1:Int)))) (0:UInt8)) (List.getD s0 (Int.toNat (IntKind.wrap .i64 (at1+(2:Int)))) (0:UInt8))).2)
 else none
 else none
 else none
def qgm (s2:List UInt8) (s3:Int):Option AV:=some (.tup [(.dat (.sl .byte) s2 none),(.dat (.int .i64) s3 none)])
def qfn (k0:List UInt8→Int→Option AV) (next:List UInt8→List UInt8→Int→Int→Option AV) (_n:Nat) (s0:List UInt8) (out4:List UInt8) (strange5:Int) (at6:Int):Option AV :=
 bif (decide (at6 < ((List.length s0:Nat):Int))) then
 bif ((decide ((0:Int)≤at6))&&(decide (at6 < (List.length s0:Nat)))) then
 bif ((List.getD s0 (Int.toNat at6) (0:UInt8))==(95:UInt8)) then
 bif (decide (List.length out4+List.length ([(32:UInt8)]:List UInt8)≤room)) then
 next s0 (out4++([(32:UInt8)]:List UInt8)) strange5 (IntKind.wrap .i64 (at6+(1:Int)))
 else none
 else
 bif ((List.getD s0 (Int.toNat at6) (0:UInt8))==(61:UInt8)) then
 bif ((qme s0 at6 (61:UInt8))&&true) then
 bif ((z189 s0 at6 (61:UInt8)).2) then
 bif (decide (List.length out4+List.length ([((z189 s0 at6 (61:UInt8)).1)]:List UInt8)≤room)) then
 next s0 (out4++([((z189 s0 at6 (61:UInt8)).1)]:List UInt8)) strange5 (IntKind.wrap .i64 (at6+(3:Int)))
 else none
 else
 bif (decide (List.length out4+List.length ([(List.getD s0 (Int.toNat at6) (0:UInt8))]:List UInt8)≤room)) then
 next s0 (out4++([(List.getD s0 (Int.toNat at6) (0:UInt8))]:List UInt8)) (IntKind.wrap .i64 (strange5+(1:Int))) (IntKind.wrap .i64 (at6+(1:Int)))
 else none
 else none
 else
 bif (decide (List.length out4+List.length ([(List.getD s0 (Int.toNat at6) (0:UInt8))]:List UInt8)≤room)) then
 next s0 (out4++([(List.getD s0 (Int.toNat at6) (0:UInt8))]:List UInt8)) strange5 (IntKind.wrap .i64 (at6+(1:Int)))
 else none
 else none
 else
 k0 out4 strange5
def qgn (k0:List UInt8→Int→Option AV):Nat→List UInt8→List UInt8→Int→Int→Option AV
 | 0=>fun _ _ _ _=>none
 | n+1=>qfn k0 (qgn k0 n) n
def qdG (_n:Nat) (out4:List UInt8) (strange5:Int):Option AV :=
 qgm out4 strange5
def qsU (n:Nat) (s0:List UInt8):Option AV :=
 qgn (qdG n) n s0 ([]:List UInt8) (0:Int) (0:Int)
def qxF (s2:List UInt8):Option AV:=some (.dat (.sl .byte) s2 none)
def qzL (_n:Nat) (s0:List UInt8):Option AV :=
 bif ((qgL s0)&&true) then
 qxF ((z144 s0).1)
 else none
def qsV (s2:List UInt8):Option AV:=some (.dat (.sl .byte) s2 none)
def qzM (_n:Nat) (w0:(List UInt8)×(Int×((List UInt8)×Unit))):Option AV :=
 bif (w0.2.1==(1:Int)) then
 bif ((qvo w0.2.2.1)&&true) then
 qsV (z98 w0.2.2.1)
 else none
 else
 bif ((qvp w0.2.2.1)&&true) then
 qsV (z99 w0.2.2.1)
 else none
def qjy (s2:List Int) (s3:Bool):Option AV:=some (.tup [(.dat (.sl (.int .i32)) s2 none),(.dat .bool s3 none)])
def qzN (_n:Nat) (s0:List UInt8):Option AV :=
 bif ((qgz s0)&&true) then
 bif (((z11 s0).2) != (0:Int)) then
 qjy ([]:List Int) false
 else
 both (
 both (
 bif ((qji ((z11 s0).1))&&true) then
 bif ((qnT ((z11 s0).1))&&true) then
 bif ((qnR (z53 ((z11 s0).1)) (z54 ((z11 s0).1)))&&true) then
 qjy (z52 (z53 ((z11 s0).1)) (z54 ((z11 s0).1))) true
 else none
 else none
 else none) (
 bif ((qji ((z11 s0).1))&&true) then
 bif ((qnT ((z11 s0).1))&&true) then
 bif ((qnR (z53 ((z11 s0).1)) (z54 ((z11 s0).1)))&&true) then
 qjy (z52 (z53 ((z11 s0).1)) (z54 ((z11 s0).1))) true
 else none
 else none
 else none)) (
 bif ((qji ((z11 s0).1))&&true) then
 bif ((qnT ((z11 s0).1))&&true) then
 bif ((qnR (z53 ((z11 s0).1)) (z54 ((z11 s0).1)))&&true) then
 qjy (z52 (z53 ((z11 s0).1)) (z54 ((z11 s0).1))) true
 else none
 else none
 else none)
 else none
def qeD (s0:Bool):Option AV:=some (.dat .bool s0 none)
def qDP (_n:Nat):Option AV :=
 bif ((qrt ([(61:UInt8),(63:UInt8),(117:UInt8),(116:UInt8),(102:UInt8),(45:UInt8),(56:UInt8),(63:UInt8),(81:UInt8),(63:UInt8),(61:UInt8),(67:UInt8),(51:UInt8),(61:UInt8),(65:UInt8),(57:UInt8),(63:UInt8),(61:UInt8)]:List UInt8))&&true) then
 bif ((qru (2:Int) (1:Int) ([(233:UInt8)]:List UInt8))&&true) then
 bif (((List.length ((z19 ([(61:UInt8),(63:UInt8),(117:UInt8),(116:UInt8),(102:UInt8),(45:UInt8),(56:UInt8),(63:UInt8),(81:UInt8),(63:UInt8),(61:UInt8),(67:UInt8),(51:UInt8),(61:UInt8),(65:UInt8),(57:UInt8),(63:UInt8),(61:UInt8)]:List UInt8)).1):Nat):Int)==(1:Int)) then
 bif ((decide ((0:Int)≤(0:Int)))&&(decide ((0:Int) < (List.length ((z19 ([(61:UInt8),(63:UInt8),(117:UInt8),(116:UInt8),(102:UInt8),(45:UInt8),(56:UInt8),(63:UInt8),(81:UInt8),(63:UInt8),(61:UInt8),(67:UInt8),(51:UInt8),(61:UInt8),(65:UInt8),(57:UInt8),(63:UInt8),(61:UInt8)]:List UInt8)).1):Nat)))) then
 bif ((List.getD ((z19 ([(61:UInt8),(63:UInt8),(117:UInt8),(116:UInt8),(102:UInt8),(45:UInt8),(56:UInt8),(63:UInt8),(81:UInt8),(63:UInt8),(61:UInt8),(67:UInt8),(51:UInt8),(61:UInt8),(65:UInt8),(57:UInt8),(63:UInt8),(61:UInt8)]:List UInt8)).1) (Int.toNat (0:Int)) (0:Int))==(233:Int)) then
 bif ((z19 ([(61:UInt8),(63:UInt8),(117:UInt8),(116:UInt8),(102:UInt8),(45:UInt8),(56:UInt8),(63:UInt8),(81:UInt8),(63:UInt8),(61:UInt8),(67:UInt8),(51:UInt8),(61:UInt8),(65:UInt8),(57:UInt8),(63:UInt8),(61:UInt8)]:List UInt8)).2) then
 bif (((z15 (2:Int) (1:Int) ([(233:UInt8)]:List UInt8)).1)==([61,63,105,115,111,45,56,56,53,57,45,49,63,66,63,54,81,61,61,63,61]:List UInt8)) then
 bif (((z15 (2:Int) (1:Int) ([(233:UInt8)]:List UInt8)).2)==(0:Int)) then
 bif ((z17 (5:Int))==(12:Int)) then
 bif ((qtp ([(61:UInt8),(63:UInt8),(97:UInt8),(63:UInt8),(99:UInt8),(63:UInt8),(98:UInt8),(63:UInt8),(61:UInt8)]:List UInt8))&&true) then
 qeD (!(z14 ([(61:UInt8),(63:UInt8),(97:UInt8),(63:UInt8),(99:UInt8),(63:UInt8),(98:UInt8),(63:UInt8),(61:UInt8)]:List UInt8)))
 else none
 else
 qeD false
 else
 qeD false
 else
 qeD false
 else
 qeD false
 else
 qeD false
 else none
 else
 qeD false
 else none
 else none
def qgV (s4:Bool):Option AV:=some (.dat .bool s4 none)
def qen (ret:Bool→Option AV) (k0:Option AV) (next:List Int→List Int→Int→Option AV) (_n:Nat) (a0:List Int) (b1:List Int) (i5:Int):Option AV :=
 bif (decide (i5 < ((List.length a0:Nat):Int))) then
 bif ((decide ((0:Int)≤i5))&&(decide (i5 < (List.length a0:Nat)))) then
 bif ((decide ((0:Int)≤i5))&&(decide (i5 < (List.length b1:Nat)))) then
 bif ((List.getD a0 (Int.toNat i5) (0:Int)) != (List.getD b1 (Int.toNat i5) (0:Int))) then
 ret false
 else
 next a0 b1 (IntKind.wrap .i64 (i5+(1:Int)))
 else none
 else none
 else
 k0
def qij (ret:Bool→Option AV) (k0:Option AV):Nat→List Int→List Int→Int→Option AV
 | 0=>fun _ _ _=>none
 | n+1=>qen ret k0 (qij ret k0 n) n
def qik (_n:Nat):Option AV :=
 qgV true
def qwm (n:Nat) (a0:List Int) (b1:List Int):Option AV :=
 bif (((List.length a0:Nat):Int) != ((List.length b1:Nat):Int)) then
 qgV false
 else
 qij qgV (qik n) n a0 b1 (0:Int)
def qsW (s2:Int):Option AV:=some (.dat (.int .i64) s2 none)
def qzO (_n:Nat) (s0:List UInt8):Option AV :=
 bif ((qgz s0)&&true) then
 bif (((z11 s0).2) != (0:Int)) then
 qsW (0:Int)
 else
 bif ((qji ((z11 s0).1))&&true) then
 qsW (z53 ((z11 s0).1))
 else none
 else none
def qlc (s4:Bool):Option AV:=some (.dat .bool s4 none)
def qsX (_n:Nat) (s0:List UInt8) (suffix1:List UInt8):Option AV :=
 bif (decide (((List.length suffix1:Nat):Int)≤((List.length s0:Nat):Int))) then
 bif (((decide ((0:Int)≤(IntKind.wrap .i64 (((List.length s0:Nat):Int) - ((List.length suffix1:Nat):Int)))))&&(decide ((IntKind.wrap .i64 (((List.length s0:Nat):Int) - ((List.length suffix1:Nat):Int)))≤((List.length s0:Nat):Int))))&&(decide (((List.length s0:Nat):Int)≤((List.length s0:Nat):Int)))) then
 qlc (z175 (List.drop (Int.toNat (IntKind.wrap .i64 (((List.length s0:Nat):Int) - ((List.length suffix1:Nat):Int)))) (List.take (Int.toNat ((List.length s0:Nat):Int)) s0)) suffix1)
 else none
 else
 qlc false
def qld (s4:List UInt8):Option AV:=some (.dat (.sl .byte) s4 none)
def qsY (_n:Nat) (s0:List UInt8) (suffix1:List UInt8):Option AV :=
 bif ((qmn s0 suffix1)&&true) then
 bif (z228 s0 suffix1) then
 bif (((decide ((0:Int)≤((0:Nat):Int)))&&(decide (((0:Nat):Int)≤(IntKind.wrap .i64 (((List.length s0:Nat):Int) - ((List.length suffix1:Nat):Int))))))&&(decide ((IntKind.wrap .i64 (((List.length s0:Nat):Int) - ((List.length suffix1:Nat):Int)))≤((List.length s0:Nat):Int)))) then
 qld (List.drop (Int.toNat ((0:Nat):Int)) (List.take (Int.toNat (IntKind.wrap .i64 (((List.length s0:Nat):Int) - ((List.length suffix1:Nat):Int)))) s0))
 else none
 else
 qld s0
 else none
def qle (s2:List UInt8):Option AV:=some (.dat (.sl .byte) s2 none)
def qmL (k0:List UInt8→Option AV) (next:List UInt8→Int→Option AV) (_n:Nat) (s0:List UInt8) (s3:Int):Option AV :=
 bif (decide (s3 < (2:Int))) then
 bif ((qfU s0 ([(61:UInt8)]:List UInt8))&&true) then
 next (z191 s0 ([(61:UInt8)]:List UInt8)) (IntKind.wrap .i64 (s3+(1:Int)))
 else none
 else
 k0 s0
def qgW (k0:List UInt8→Option AV):Nat→List UInt8→Int→Option AV
 | 0=>fun _ _=>none
 | n+1=>qmL k0 (qgW k0 n) n
def qfo (_n:Nat) (s0:List UInt8):Option AV :=
 qle s0
def qmM (n:Nat) (s0:List UInt8):Option AV :=
 qgW (qfo n) n s0 (0:Int)
def qaf (s2:List UInt8) (s3:Int):Option AV:=some (.tup [(.dat (.sl .byte) s2 none),(.dat (.int .i64) s3 none)])
def qcq (ret:List UInt8→Int→Option AV) (k0:List UInt8→List UInt8→Int→Option AV) (next:List UInt8→List UInt8→Int→Int→List UInt8→Int→Int→Option AV) (_n:Nat) (s0:List UInt8) (out4:List UInt8) (held5:Int) (many6:Int) (s12:List UInt8) (s13:Int) (s14:Int):Option AV :=
 bif (decide (s14 < s13)) then
 bif ((decide ((0:Int)≤s14))&&(decide (s14 < (List.length s12:Nat)))) then
 bif (!((z150 (List.getD s12 (Int.toNat s14) (0:UInt8))).2)) then
 ret ([]:List UInt8) (3:Int)
 else
 bif (decide ((8:Int)≤(IntKind.wrap .i64 (many6+(6:Int))))) then
 bif (decide ((0:Int)≤(IntKind.wrap .i64 ((IntKind.wrap .i64 (many6+(6:Int))) - (8:Int))))) then
 bif (decide (List.length out4+List.length ([(UInt8.ofNat (Int.toNat (IntKind.wrap .u8 (Int.fdiv (bits .or .i64 (IntKind.wrap .i64 (held5*2 ^ (min (Int.toNat (6:Int)) (IntKind.bits .i64)))) ((z150 (List.getD s12 (Int.toNat s14) (0:UInt8))).1)) (2 ^ (min (Int.toNat (IntKind.wrap .i64 ((IntKind.wrap .i64 (many6+(6:Int))) - (8:Int)))) (IntKind.bits .i64)))))))]:List UInt8)≤room)) then
 bif (decide ((0:Int)≤(IntKind.wrap .i64 ((IntKind.wrap .i64 (many6+(6:Int))) - (8:Int))))) then
 next s0 (out4++([(UInt8.ofNat (Int.toNat (IntKind.wrap .u8 (Int.fdiv (bits .or .i64 (IntKind.wrap .i64 (held5*2 ^ (min (Int.toNat (6:Int)) (IntKind.bits .i64)))) ((z150 (List.getD s12 (Int.toNat s14) (0:UInt8))).1)) (2 ^ (min (Int.toNat (IntKind.wrap .i64 ((IntKind.wrap .i64 (many6+(6:Int))) - (8:Int)))) (IntKind.bits .i64)))))))]:List UInt8)) (bits .and .i64 (bits .or .i64 (IntKind.wrap .i64 (held5*2 ^ (min (Int.toNat (6:Int)) (IntKind.bits .i64)))) ((z150 (List.getD s12 (Int.toNat s14) (0:UInt8))).1)) (IntKind.wrap .i64 ((IntKind.wrap .i64 ((1:Int)*2 ^ (min (Int.toNat (IntKind.wrap .i64 ((IntKind.wrap .i64 (many6+(6:Int))) - (8:Int)))) (IntKind.bits .i64)))) - (1:Int)))) (IntKind.wrap .i64 ((IntKind.wrap .i64 (many6+(6:Int))) - (8:Int))) s12 s13 (IntKind.wrap .i64 (s14+(1:Int)))
 else none
 else none
 else none
 else
 next s0 out4 (bits .or .i64 (IntKind.wrap .i64 (held5*2 ^ (min (Int.toNat (6:Int)) (IntKind.bits .i64)))) ((z150 (List.getD s12 (Int.toNat s14) (0:UInt8))).1)) (IntKind.wrap .i64 (many6+(6:Int))) s12 s13 (IntKind.wrap .i64 (s14+(1:Int)))
 else none
 else
 k0 s0 out4 held5
def qcG (ret:List UInt8→Int→Option AV) (k0:List UInt8→List UInt8→Int→Option AV):Nat→List UInt8→List UInt8→Int→Int→List UInt8→Int→Int→Option AV
 | 0=>fun _ _ _ _ _ _ _=>none
 | n+1=>qcq ret k0 (qcG ret k0 n) n
def qaz (_n:Nat) (s0:List UInt8) (out4:List UInt8) (held5:Int):Option AV :=
 bif ((Int.tmod ((List.length s0:Nat):Int) (4:Int)) != (0:Int)) then
 qaf ([]:List UInt8) (4:Int)
 else
 bif (held5 != (0:Int)) then
 qaf ([]:List UInt8) (3:Int)
 else
 qaf out4 (0:Int)
def qmN (n:Nat) (s0:List UInt8):Option AV :=
 bif ((qmj s0)&&true) then
 qcG qaf (qaz n) n s0 ([]:List UInt8) (0:Int) (0:Int) (z149 s0) ((List.length (z149 s0):Nat):Int) (0:Int)
 else none
def qxG (s2:Bool):Option AV:=some (.dat .bool s2 none)
def qzP (_n:Nat) (s0:List UInt8):Option AV :=
 bif ((qmk s0)&&true) then
 qxG (((z108 s0).2)==(0:Int))
 else none
def qsZ (s2:Int):Option AV:=some (.dat (.int .i64) s2 none)
def qta (_n:Nat) (s0:List UInt8):Option AV :=
 bif ((qgL s0)&&true) then
 qsZ ((z144 s0).2)
 else none
def qjz (s2:Int):Option AV:=some (.dat (.int .i64) s2 none)
def qzQ (_n:Nat) (s0:List UInt8):Option AV :=
 bif ((qoj s0 (4:Int))&&true) then
 bif (!(z80 s0 (4:Int))) then
 qjz (3:Int)
 else
 bif (decide ((0:Int)≤(z109 s0 (63:UInt8)))) then
 qjz (3:Int)
 else
 bif ((qmm s0)&&true) then
 bif (decide ((0:Int) < (z110 s0))) then
 qjz (3:Int)
 else
 qjz (0:Int)
 else none
 else none
def qgX (s2:Bool):Option AV:=some (.dat .bool s2 none)
def qzR (_n:Nat) (s0:List UInt8):Option AV :=
 bif ((qgz s0)&&true) then
 bif (((z11 s0).2) != (0:Int)) then
 qgX false
 else
 bif ((qnS ((z11 s0).1).1)&&true) then
 bif (((z11 s0).1).2.1==(1:Int)) then
 bif (((z58 ((z11 s0).1).1).2)==(0:Int)) then
 bif ((qvn ((z11 s0).1).2.2.1)&&true) then
 qgX (z59 ((z11 s0).1).2.2.1)
 else none
 else
 qgX false
 else
 bif (((z58 ((z11 s0).1).1).2)==(0:Int)) then
 bif ((qvq ((z11 s0).1).2.2.1)&&true) then
 qgX ((z60 ((z11 s0).1).2.2.1)==(0:Int))
 else none
 else
 qgX false
 else none
 else none
def qP (s2:Int):Option AV:=some (.dat (.int .i64) s2 none)
def qtb (_n:Nat) (c0:UInt8):Option AV :=
 bif (decide (c0 < (128:UInt8))) then
 qP (1:Int)
 else
 bif (decide ((194:UInt8)≤c0)) then
 bif (decide (c0≤(223:UInt8))) then
 qP (2:Int)
 else
 bif (decide ((224:UInt8)≤c0)) then
 bif (decide (c0≤(239:UInt8))) then
 qP (3:Int)
 else
 bif (decide ((240:UInt8)≤c0)) then
 bif (decide (c0≤(244:UInt8))) then
 qP (4:Int)
 else
 qP (0:Int)
 else
 qP (0:Int)
 else
 bif (decide ((240:UInt8)≤c0)) then
 bif (decide (c0≤(244:UInt8))) then
 qP (4:Int)
 else
 qP (0:Int)
 else
 qP (0:Int)
 else
 bif (decide ((224:UInt8)≤c0)) then
 bif (decide (c0≤(239:UInt8))) then
 qP (3:Int)
 else
 bif (decide ((240:UInt8)≤c0)) then
 bif (decide (c0≤(244:UInt8))) then
 qP (4:Int)
 else
 qP (0:Int)
 else
 qP (0:Int)
 else
 bif (decide ((240:UInt8)≤c0)) then
 bif (decide (c0≤(244:UInt8))) then
 qP (4:Int)
 else
 qP (0:Int)
 else
 qP (0:Int)
def qeo (s2:UInt8) (s3:UInt8):Option AV:=some (.tup [(.dat .byte s2 none),(.dat .byte s3 none)])
def qtc (_n:Nat) (c0:UInt8):Option AV :=
 bif (c0==(224:UInt8)) then
 qeo (160:UInt8) (191:UInt8)
 else
 bif (c0==(237:UInt8)) then
 qeo (128:UInt8) (159:UInt8)
 else
 bif (c0==(240:UInt8)) then
 qeo (144:UInt8) (191:UInt8)
 else
 bif (c0==(244:UInt8)) then
 qeo (128:UInt8) (143:UInt8)
 else
 qeo (128:UInt8) (191:UInt8)
def qbi (s2:Int):Option AV:=some (.dat (.int .i64) s2 none)
def qcr (ret:Int→Option AV) (k0:Int→Option AV) (next:List UInt8→Int→Option AV) (_n:Nat) (s0:List UInt8) (n3:Int):Option AV :=
 bif ((decide ((0:Int)≤(0:Int)))&&(decide ((0:Int) < (List.length s0:Nat)))) then
 bif (decide (n3 < (z153 (List.getD s0 (Int.toNat (0:Int)) (0:UInt8))))) then
 bif (decide (n3 < ((List.length s0:Nat):Int))) then
 bif (n3==(1:Int)) then
 bif ((decide ((0:Int)≤(0:Int)))&&(decide ((0:Int) < (List.length s0:Nat)))) then
 bif ((decide ((0:Int)≤n3))&&(decide (n3 < (List.length s0:Nat)))) then
 bif (decide ((List.getD s0 (Int.toNat n3) (0:UInt8)) < ((z193 (List.getD s0 (Int.toNat (0:Int)) (0:UInt8))).1))) then
 ret n3
 else
 bif ((decide ((0:Int)≤n3))&&(decide (n3 < (List.length s0:Nat)))) then
 bif (decide (((z193 (List.getD s0 (Int.toNat (0:Int)) (0:UInt8))).2) < (List.getD s0 (Int.toNat n3) (0:UInt8)))) then
 ret n3
 else
 next s0 (IntKind.wrap .i64 (n3+(1:Int)))
 else none
 else none
 else none
 else
 bif ((decide ((0:Int)≤n3))&&(decide (n3 < (List.length s0:Nat)))) then
 bif (decide ((List.getD s0 (Int.toNat n3) (0:UInt8)) < (128:UInt8))) then
 ret n3
 else
 bif ((decide ((0:Int)≤n3))&&(decide (n3 < (List.length s0:Nat)))) then
 bif (decide ((191:UInt8) < (List.getD s0 (Int.toNat n3) (0:UInt8)))) then
 ret n3
 else
 next s0 (IntKind.wrap .i64 (n3+(1:Int)))
 else none
 else none
 else
 k0 n3
 else
 k0 n3
 else none
def qeE (ret:Int→Option AV) (k0:Int→Option AV):Nat→List UInt8→Int→Option AV
 | 0=>fun _ _=>none
 | n+1=>qcr ret k0 (qeE ret k0 n) n
def qcs (_n:Nat) (n3:Int):Option AV :=
 qbi n3
def qmO (n:Nat) (s0:List UInt8):Option AV :=
 bif (((List.length s0:Nat):Int)==(0:Int)) then
 qbi (0:Int)
 else
 bif ((decide ((0:Int)≤(0:Int)))&&(decide ((0:Int) < (List.length s0:Nat)))) then
 bif ((z153 (List.getD s0 (Int.toNat (0:Int)) (0:UInt8)))==(0:Int)) then
 qbi (0:Int)
 else
 qeE qbi (qcs n) n s0 (1:Int)
 else none
def qbj (s2:Int) (s3:Int) (s4:Int):Option AV:=some (.tup [(.dat (.int .i32) s2 none),(.dat (.int .i64) s3 none),(.dat (.int .i64) s4 none)])
def qct (k0:Int→Int→Option AV) (next:List UInt8→Int→Int→Int→Option AV) (_n:Nat) (s0:List UInt8) (n5:Int) (c7:Int) (i8:Int):Option AV :=
 bif (decide (i8 < n5)) then
 bif ((decide ((0:Int)≤i8))&&(decide (i8 < (List.length s0:Nat)))) then
 next s0 n5 (IntKind.wrap .i64 ((IntKind.wrap .i64 ((IntKind.wrap .i64 ((64:Int)*c7))+(IntKind.wrap .i64 ((UInt8.toNat (List.getD s0 (Int.toNat i8) (0:UInt8)):Nat):Int)))) - (128:Int))) (IntKind.wrap .i64 (i8+(1:Int)))
 else none
 else
 k0 n5 c7
def qgo (k0:Int→Int→Option AV):Nat→List UInt8→Int→Int→Int→Option AV
 | 0=>fun _ _ _ _=>none
 | n+1=>qct k0 (qgo k0 n) n
def qdH (_n:Nat) (n5:Int) (c7:Int):Option AV :=
 qbj (IntKind.wrap .i32 c7) n5 (0:Int)
def qmP (n:Nat) (s0:List UInt8):Option AV :=
 bif (((List.length s0:Nat):Int)==(0:Int)) then
 qbj (0:Int) (0:Int) (4:Int)
 else
 bif ((qmg s0)&&true) then
 bif (decide ((0:Int) < (z152 s0))) then
 bif ((decide ((0:Int)≤(0:Int)))&&(decide ((0:Int) < (List.length s0:Nat)))) then
 bif ((z152 s0)==(z153 (List.getD s0 (Int.toNat (0:Int)) (0:UInt8)))) then
 bif ((decide ((0:Int)≤(0:Int)))&&(decide ((0:Int) < (List.length s0:Nat)))) then
 bif ((decide ((0:Int)≤(z152 s0)))&&(decide ((z152 s0) < (List.length ([(0:Int),(0:Int),(192:Int),(224:Int),(240:Int)]:List Int):Nat)))) then
 qgo (qdH n) n s0 (z152 s0) (IntKind.wrap .i64 ((IntKind.wrap .i64 ((UInt8.toNat (List.getD s0 (Int.toNat (0:Int)) (0:UInt8)):Nat):Int)) - (List.getD ([(0:Int),(0:Int),(192:Int),(224:Int),(240:Int)]:List Int) (Int.toNat (z152 s0)) (0:Int)))) (1:Int)
 else none
 else none
 else
 bif ((z152 s0)==((List.length s0:Nat):Int)) then
 qbj (0:Int) (z152 s0) (4:Int)
 else
 qbj (0:Int) (bif (decide ((1:Int) > (z152 s0))) then (1:Int) else (z152 s0)) (3:Int)
 else none
 else
 bif ((z152 s0)==((List.length s0:Nat):Int)) then
 qbj (0:Int) (z152 s0) (4:Int)
 else
 qbj (0:Int) (bif (decide ((1:Int) > (z152 s0))) then (1:Int) else (z152 s0)) (3:Int)
 else none
def qjA (s2:List Int) (s3:Int) (s4:Int):Option AV:=some (.tup [(.dat (.sl (.int .i32)) s2 none),(.dat (.int .i64) s3 none),(.dat (.int .i64) s4 none)])
def qil (k0:List Int→Int→Int→Option AV) (next:List UInt8→List Int→Int→Int→Int→Option AV) (_n:Nat) (s0:List UInt8) (out5:List Int) (broken6:Int) (first7:Int) (at8:Int):Option AV :=
 bif (decide (at8 < ((List.length s0:Nat):Int))) then
 bif (((decide ((0:Int)≤at8))&&(decide (at8≤((List.length s0:Nat):Int))))&&(decide (((List.length s0:Nat):Int)≤((List.length s0:Nat):Int)))) then
 bif ((qmh (List.drop (Int.toNat at8) (List.take (Int.toNat ((List.length s0:Nat):Int)) s0)))&&true) then
 bif (((z111 (List.drop (Int.toNat at8) (List.take (Int.toNat ((List.length s0:Nat):Int)) s0))).2.2) != (0:Int)) then
 bif (first7==(0:Int)) then
 bif (decide (List.length out5+List.length ([(65533:Int)]:List Int)≤room)) then
 next s0 (out5++([(65533:Int)]:List Int)) (IntKind.wrap .i64 (broken6+(1:Int))) ((z111 (List.drop (Int.toNat at8) (List.take (Int.toNat ((List.length s0:Nat):Int)) s0))).2.2) (IntKind.wrap .i64 (at8+(bif (decide ((1:Int) > ((z111 (List.drop (Int.toNat at8) (List.take (Int.toNat ((List.length s0:Nat):Int)) s0))).2.1))) then (1:Int) else ((z111 (List.drop (Int.toNat at8) (List.take (Int.toNat ((List.length s0:Nat):Int)) s0))).2.1))))
 else none
 else
 bif (decide (List.length out5+List.length ([(65533:Int)]:List Int)≤room)) then
 next s0 (out5++([(65533:Int)]:List Int)) (IntKind.wrap .i64 (broken6+(1:Int))) first7 (IntKind.wrap .i64 (at8+(bif (decide ((1:Int) > ((z111 (List.drop (Int.toNat at8) (List.take (Int.toNat ((List.length s0:Nat):Int)) s0))).2.1))) then (1:Int) else ((z111 (List.drop (Int.toNat at8) (List.take (Int.toNat ((List.length s0:Nat):Int)) s0))).2.1))))
 else none
 else
 bif (decide (List.length out5+List.length ([((z111 (List.drop (Int.toNat at8) (List.take (Int.toNat ((List.length s0:Nat):Int)) s0))).1)]:List Int)≤room)) then
 next s0 (out5++([((z111 (List.drop (Int.toNat at8) (List.take (Int.toNat ((List.length s0:Nat):Int)) s0))).1)]:List Int)) broken6 first7 (IntKind.wrap .i64 (at8+(bif (decide ((1:Int) > ((z111 (List.drop (Int.toNat at8) (List.take (Int.toNat ((List.length s0:Nat):Int)) s0))).2.1))) then (1:Int) else ((z111 (List.drop (Int.toNat at8) (List.take (Int.toNat ((List.length s0:Nat):Int)) s0))).2.1))))
 else none
 else none
 else none
 else
 k0 out5 broken6 first7
def qjB (k0:List Int→Int→Int→Option AV):Nat→List UInt8→List Int→Int→Int→Int→Option AV
 | 0=>fun _ _ _ _ _=>none
 | n+1=>qil k0 (qjB k0 n) n
def qep (_n:Nat) (out5:List Int) (broken6:Int) (first7:Int):Option AV :=
 qjA out5 broken6 first7
def qzS (n:Nat) (s0:List UInt8):Option AV :=
 qjB (qep n) n s0 ([]:List Int) (0:Int) (0:Int) (0:Int)
def qcH (s2:Int):Option AV:=some (.dat (.int .i32) s2 none)
def qzT (_n:Nat) (x0:UInt8):Option AV :=
 bif (x0==(164:UInt8)) then
 qcH (8364:Int)
 else
 bif (x0==(166:UInt8)) then
 qcH (352:Int)
 else
 bif (x0==(168:UInt8)) then
 qcH (353:Int)
 else
 bif (x0==(180:UInt8)) then
 qcH (381:Int)
 else
 bif (x0==(184:UInt8)) then
 qcH (382:Int)
 else
 bif (x0==(188:UInt8)) then
 qcH (338:Int)
 else
 bif (x0==(189:UInt8)) then
 qcH (339:Int)
 else
 bif (x0==(190:UInt8)) then
 qcH (376:Int)
 else
 qcH (IntKind.wrap .i32 ((UInt8.toNat x0:Nat):Int))
def qmQ (s2:Int):Option AV:=some (.dat (.int .i32) s2 none)
def qzU (_n:Nat) (x0:UInt8):Option AV :=
 bif (decide (x0 < (128:UInt8))) then
 qmQ (IntKind.wrap .i32 ((UInt8.toNat x0:Nat):Int))
 else
 bif (decide ((159:UInt8) < x0)) then
 qmQ (IntKind.wrap .i32 ((UInt8.toNat x0:Nat):Int))
 else
 bif ((decide ((0:Int)≤((UInt8.toNat (x0 - (128:UInt8)):Nat):Int)))&&(decide (((UInt8.toNat (x0 - (128:UInt8)):Nat):Int) < (List.length ([(8364:Int),(65533:Int),(8218:Int),(402:Int),(8222:Int),(8230:Int),(8224:Int),(8225:Int),(710:Int),(8240:Int),(352:Int),(8249:Int),(338:Int),(65533:Int),(381:Int),(65533:Int),(65533:Int),(8216:Int),(8217:Int),(8220:Int),(8221:Int),(8226:Int),(8211:Int),(8212:Int),(732:Int),(8482:Int),(353:Int),(8250:Int),(339:Int),(65533:Int),(382:Int),(376:Int)]:List Int):Nat)))) then
 qmQ (List.getD ([(8364:Int),(65533:Int),(8218:Int),(402:Int),(8222:Int),(8230:Int),(8224:Int),(8225:Int),(710:Int),(8240:Int),(352:Int),(8249:Int),(338:Int),(65533:Int),(381:Int),(65533:Int),(65533:Int),(8216:Int),(8217:Int),(8220:Int),(8221:Int),(8226:Int),(8211:Int),(8212:Int),(732:Int),(8482:Int),(353:Int),(8250:Int),(339:Int),(65533:Int),(382:Int),(376:Int)]:List Int) (Int.toNat ((UInt8.toNat (x0 - (128:UInt8)):Nat):Int)) (0:Int))
 else none
def qjC (s4:List Int):Option AV:=some (.dat (.sl (.int .i32)) s4 none)
def qeq (k0:List Int→Option AV) (next:Int→List UInt8→List Int→Int→Option AV) (_n:Nat) (charset0:Int) (s1:List UInt8) (out8:List Int) (i9:Int):Option AV :=
 bif (decide (i9 < ((List.length s1:Nat):Int))) then
 bif (charset0==(1:Int)) then
 bif ((decide ((0:Int)≤i9))&&(decide (i9 < (List.length s1:Nat)))) then
 bif (decide ((127:UInt8) < (List.getD s1 (Int.toNat i9) (0:UInt8)))) then
 bif (decide (List.length out8+List.length ([(65533:Int)]:List Int)≤room)) then
 next charset0 s1 (out8++([(65533:Int)]:List Int)) (IntKind.wrap .i64 (i9+(1:Int)))
 else none
 else
 bif (charset0==(3:Int)) then
 bif ((decide ((0:Int)≤i9))&&(decide (i9 < (List.length s1:Nat)))) then
 bif (decide (List.length out8+List.length ([(z64 (List.getD s1 (Int.toNat i9) (0:UInt8)))]:List Int)≤room)) then
 next charset0 s1 (out8++([(z64 (List.getD s1 (Int.toNat i9) (0:UInt8)))]:List Int)) (IntKind.wrap .i64 (i9+(1:Int)))
 else none
 else none
 else
 bif (charset0==(4:Int)) then
 bif ((decide ((0:Int)≤i9))&&(decide (i9 < (List.length s1:Nat)))) then
 bif (decide (List.length out8+List.length ([(z65 (List.getD s1 (Int.toNat i9) (0:UInt8)))]:List Int)≤room)) then
 next charset0 s1 (out8++([(z65 (List.getD s1 (Int.toNat i9) (0:UInt8)))]:List Int)) (IntKind.wrap .i64 (i9+(1:Int)))
 else none
 else none
 else
 bif ((decide ((0:Int)≤i9))&&(decide (i9 < (List.length s1:Nat)))) then
 bif (decide (List.length out8+List.length ([(IntKind.wrap .i32 ((UInt8.toNat (List.getD s1 (Int.toNat i9) (0:UInt8)):Nat):Int))]:List Int)≤room)) then
 next charset0 s1 (out8++([(IntKind.wrap .i32 ((UInt8.toNat (List.getD s1 (Int.toNat i9) (0:UInt8)):Nat):Int))]:List Int)) (IntKind.wrap .i64 (i9+(1:Int)))
 else none
 else none
 else none
 else
 bif (charset0==(3:Int)) then
 bif ((decide ((0:Int)≤i9))&&(decide (i9 < (List.length s1:Nat)))) then
 bif (decide (List.length out8+List.length ([(z64 (List.getD s1 (Int.toNat i9) (0:UInt8)))]:List Int)≤room)) then
 next charset0 s1 (out8++([(z64 (List.getD s1 (Int.toNat i9) (0:UInt8)))]:List Int)) (IntKind.wrap .i64 (i9+(1:Int)))
 else none
 else none
 else
 bif (charset0==(4:Int)) then
 bif ((decide ((0:Int)≤i9))&&(decide (i9 < (List.length s1:Nat)))) then
 bif (decide (List.length out8+List.length ([(z65 (List.getD s1 (Int.toNat i9) (0:UInt8)))]:List Int)≤room)) then
 next charset0 s1 (out8++([(z65 (List.getD s1 (Int.toNat i9) (0:UInt8)))]:List Int)) (IntKind.wrap .i64 (i9+(1:Int)))
 else none
 else none
 else
 bif ((decide ((0:Int)≤i9))&&(decide (i9 < (List.length s1:Nat)))) then
 bif (decide (List.length out8+List.length ([(IntKind.wrap .i32 ((UInt8.toNat (List.getD s1 (Int.toNat i9) (0:UInt8)):Nat):Int))]:List Int)≤room)) then
 next charset0 s1 (out8++([(IntKind.wrap .i32 ((UInt8.toNat (List.getD s1 (Int.toNat i9) (0:UInt8)):Nat):Int))]:List Int)) (IntKind.wrap .i64 (i9+(1:Int)))
 else none
 else none
 else
 k0 out8
def qlf (k0:List Int→Option AV):Nat→Int→List UInt8→List Int→Int→Option AV
 | 0=>fun _ _ _ _=>none
 | n+1=>qeq k0 (qlf k0 n) n
def qer (_n:Nat) (out8:List Int):Option AV :=
 qjC out8
def qwn (n:Nat) (charset0:Int) (s1:List UInt8):Option AV :=
 bif (charset0==(5:Int)) then
 bif ((qvk s1)&&true) then
 qjC ((z63 s1).1)
 else none
 else
 qlf (qer n) n charset0 s1 ([]:List Int) (0:Int)
def qgp (s6:Bool):Option AV:=some (.dat .bool s6 none)
def z6_sh (_n:Nat) (charset0:Int) (code1:Int) (s2:List UInt8):Option AV :=
 bif (decide ((500:Int) < ((List.length s2:Nat):Int))) then
 qgp z10
 else
 bif ((qru charset0 code1 s2)&&true) then
 bif (((z15 charset0 code1 s2).2) != (0:Int)) then
 bif (((List.length ((z15 charset0 code1 s2).1):Nat):Int)==(0:Int)) then
 qgp z10
 else
 qgp false
 else
 bif ((qrt ((z15 charset0 code1 s2).1))&&true) then
 bif ((qvs ((z15 charset0 code1 s2).1))&&true) then
 bif (z24 ((z15 charset0 code1 s2).1)) then
 bif ((qtp ((z15 charset0 code1 s2).1))&&true) then
 bif (z14 ((z15 charset0 code1 s2).1)) then
 bif (decide (((List.length ((z15 charset0 code1 s2).1):Nat):Int)≤(75:Int))) then
 bif ((z19 ((z15 charset0 code1 s2).1)).2) then
 bif ((qvt ((z15 charset0 code1 s2).1))&&true) then
 bif ((z22 ((z15 charset0 code1 s2).1))==charset0) then
 bif ((qvl charset0 s2)&&true) then
 bif ((qvu ((z19 ((z15 charset0 code1 s2).1)).1) (z26 charset0 s2))&&true) then
 bif (z21 ((z19 ((z15 charset0 code1 s2).1)).1) (z26 charset0 s2)) then
 qgp z10
 else
 qgp false
 else none
 else none
 else
 qgp false
 else none
 else
 qgp false
 else
 qgp false
 else
 qgp false
 else none
 else
 qgp false
 else none
 else none
 else none
end
end Go.Av
