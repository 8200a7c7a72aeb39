import Derived.Test.YtopepdfipgfakaaGreatDoorEfM
import Derived.Test.YtopepdfipgfakaaGreatDoorAvE
namespace Go.Av
set_option linter.unusedVariables false
open List (getD length drop take replicate set)
open Int (toNat)
open UInt8 (ofNat)
open IntKind (wrap bits)
abbrev OA:=Option AV
noncomputable section
def qvs (s4:Int):OA:=some (.dat (.int .i64) s4 none)
def qBG (_n:Nat) (b0:LU) (c1:UInt8):OA :=
 qvs (z151 b0 c1)
def qvt (s4:Bool):OA:=some (.dat .bool s4 none)
def qBH (_n:Nat) (a0:LU) (b1:LU):OA :=
 qvt (a0==b1)
def qhn (s4:Int):OA:=some (.dat (.int .i64) s4 none)
def qpd (ret:Int→OA) (next:LU→LU→Int→OA) (_n:Nat) (s0:LU) (sep1:LU) (n5:Int):OA :=
 bif ((qiM s0 sep1)&&true) then
 bif ((z125 s0 sep1)==(-1:Int)) then
 ret n5
 else
 bif (((decide ((0:Int)≤(wrap .i64 ((z125 s0 sep1)+((length sep1:Nat):Int)))))&&(decide ((wrap .i64 ((z125 s0 sep1)+((length sep1:Nat):Int)))≤((length s0:Nat):Int))))&&(decide (((length s0:Nat):Int)≤((length s0:Nat):Int)))) then
 next (drop (toNat (wrap .i64 ((z125 s0 sep1)+((length sep1:Nat):Int)))) (take (toNat ((length s0:Nat):Int)) s0)) sep1 (wrap .i64 (n5+(1:Int)))
 else none
 else none
def qix (ret:Int→OA):Nat→LU→LU→Int→OA
 | 0=>fun _ _ _=>none
 | n+1=>qpd ret (qix ret n) n
def qvu (n:Nat) (s0:LU) (sep1:LU):OA :=
 bif (((length sep1:Nat):Int)==(0:Int)) then
 bif ((qCi s0)&&true) then
 qhn (wrap .i64 ((z173 s0)+(1:Int)))
 else none
 else
 bif (((length sep1:Nat):Int)==(1:Int)) then
 bif ((decide ((0:Int)≤(0:Int)))&&(decide ((0:Int) < (length sep1:Nat)))) then
 qhn (z174 s0 (getD sep1 (toNat (0:Int)) (0:UInt8)))
 else none
 else
 qix qhn n s0 sep1 (0:Int)
def qly (s8:List LU):OA:=some (.dat (.sl (.sl .byte)) s8 none)
def qcL (k0:LU→List LU→Int→OA) (next:LU→LU→Int→Int→List LU→Int→OA) (_n:Nat) (s0:LU) (sep1:LU) (sepSave2:Int) (n3:Int) (a9:List LU) (i10:Int):OA :=
 bif (decide (i10 < n3)) then
 bif ((qiM s0 sep1)&&true) then
 bif (decide ((z125 s0 sep1) < (0:Int))) then
 k0 s0 a9 i10
 else
 bif ((((decide ((0:Int)≤((0:Nat):Int)))&&(decide (((0:Nat):Int)≤(wrap .i64 ((z125 s0 sep1)+sepSave2)))))&&(decide ((wrap .i64 ((z125 s0 sep1)+sepSave2))≤(wrap .i64 ((z125 s0 sep1)+sepSave2)))))&&(decide ((wrap .i64 ((z125 s0 sep1)+sepSave2))≤((length s0:Nat):Int)))) then
 bif ((decide ((0:Int)≤i10))&&(decide (i10 < (length a9:Nat)))) then
 bif (((decide ((0:Int)≤(wrap .i64 ((z125 s0 sep1)+((length sep1:Nat):Int)))))&&(decide ((wrap .i64 ((z125 s0 sep1)+((length sep1:Nat):Int)))≤((length s0:Nat):Int))))&&(decide (((length s0:Nat):Int)≤((length s0:Nat):Int)))) then
 next (drop (toNat (wrap .i64 ((z125 s0 sep1)+((length sep1:Nat):Int)))) (take (toNat ((length s0:Nat):Int)) s0)) sep1 sepSave2 n3 (set a9 (toNat i10) (drop (toNat ((0:Nat):Int)) (take (toNat (wrap .i64 ((z125 s0 sep1)+sepSave2))) s0))) (wrap .i64 (i10+(1:Int)))
 else none
 else none
 else none
 else none
 else
 k0 s0 a9 i10
def qdr (k0:LU→List LU→Int→OA):Nat→LU→LU→Int→Int→List LU→Int→OA
 | 0=>fun _ _ _ _ _ _=>none
 | n+1=>qcL k0 (qdr k0 n) n
def qai (_n:Nat) (s0:LU) (a9:List LU) (i10:Int):OA :=
 bif ((decide ((0:Int)≤i10))&&(decide (i10 < (length a9:Nat)))) then
 bif (((decide ((0:Int)≤((0:Nat):Int)))&&(decide (((0:Nat):Int)≤(wrap .i64 (i10+(1:Int))))))&&(decide ((wrap .i64 (i10+(1:Int)))≤((length (set a9 (toNat i10) s0):Nat):Int)))) then
 qly (drop (toNat ((0:Nat):Int)) (take (toNat (wrap .i64 (i10+(1:Int)))) (set a9 (toNat i10) s0)))
 else none
 else none
def qAl (n:Nat) (s0:LU) (sep1:LU) (sepSave2:Int) (n3:Int):OA :=
 bif (n3==(0:Int)) then
 qly ([]:List LU)
 else
 bif (((length sep1:Nat):Int)==(0:Int)) then
 bif ((qCj s0 n3)&&true) then
 qly (z123 s0 n3)
 else none
 else
 bif (decide (n3 < (0:Int))) then
 bif ((qiL s0 sep1)&&true) then
 bif (((decide ((0:Int)≤(bif (decide ((wrap .i64 (((length s0:Nat):Int)+(1:Int))) < (wrap .i64 ((z124 s0 sep1)+(1:Int))))) then (wrap .i64 (((length s0:Nat):Int)+(1:Int))) else (wrap .i64 ((z124 s0 sep1)+(1:Int))))))&&(decide ((bif (decide ((wrap .i64 (((length s0:Nat):Int)+(1:Int))) < (wrap .i64 ((z124 s0 sep1)+(1:Int))))) then (wrap .i64 (((length s0:Nat):Int)+(1:Int))) else (wrap .i64 ((z124 s0 sep1)+(1:Int))))≤(bif (decide ((wrap .i64 (((length s0:Nat):Int)+(1:Int))) < (wrap .i64 ((z124 s0 sep1)+(1:Int))))) then (wrap .i64 (((length s0:Nat):Int)+(1:Int))) else (wrap .i64 ((z124 s0 sep1)+(1:Int)))))))&&(decide ((bif (decide ((wrap .i64 (((length s0:Nat):Int)+(1:Int))) < (wrap .i64 ((z124 s0 sep1)+(1:Int))))) then (wrap .i64 (((length s0:Nat):Int)+(1:Int))) else (wrap .i64 ((z124 s0 sep1)+(1:Int))))≤(room:Int)))) then
 qdr (qai n) n s0 sep1 sepSave2 (wrap .i64 ((bif (decide ((wrap .i64 (((length s0:Nat):Int)+(1:Int))) < (wrap .i64 ((z124 s0 sep1)+(1:Int))))) then (wrap .i64 (((length s0:Nat):Int)+(1:Int))) else (wrap .i64 ((z124 s0 sep1)+(1:Int)))) - (1:Int))) (replicate (toNat (bif (decide ((wrap .i64 (((length s0:Nat):Int)+(1:Int))) < (wrap .i64 ((z124 s0 sep1)+(1:Int))))) then (wrap .i64 (((length s0:Nat):Int)+(1:Int))) else (wrap .i64 ((z124 s0 sep1)+(1:Int))))) ([]:LU)) (0:Int)
 else none
 else none
 else
 bif (((decide ((0:Int)≤(bif (decide ((wrap .i64 (((length s0:Nat):Int)+(1:Int))) < n3)) then (wrap .i64 (((length s0:Nat):Int)+(1:Int))) else n3)))&&(decide ((bif (decide ((wrap .i64 (((length s0:Nat):Int)+(1:Int))) < n3)) then (wrap .i64 (((length s0:Nat):Int)+(1:Int))) else n3)≤(bif (decide ((wrap .i64 (((length s0:Nat):Int)+(1:Int))) < n3)) then (wrap .i64 (((length s0:Nat):Int)+(1:Int))) else n3))))&&(decide ((bif (decide ((wrap .i64 (((length s0:Nat):Int)+(1:Int))) < n3)) then (wrap .i64 (((length s0:Nat):Int)+(1:Int))) else n3)≤(room:Int)))) then
 qdr (qai n) n s0 sep1 sepSave2 (wrap .i64 ((bif (decide ((wrap .i64 (((length s0:Nat):Int)+(1:Int))) < n3)) then (wrap .i64 (((length s0:Nat):Int)+(1:Int))) else n3) - (1:Int))) (replicate (toNat (bif (decide ((wrap .i64 (((length s0:Nat):Int)+(1:Int))) < n3)) then (wrap .i64 (((length s0:Nat):Int)+(1:Int))) else n3)) ([]:LU)) (0:Int)
 else none
def qBI (s4:List LU):OA:=some (.dat (.sl (.sl .byte)) s4 none)
def qEd (_n:Nat) (s0:LU) (sep1:LU):OA :=
 bif ((qrf s0 sep1 (0:Int) (-1:Int))&&true) then
 qBI (z78 s0 sep1 (0:Int) (-1:Int))
 else none
def qkb (s2:UInt8):OA:=some (.dat .byte s2 none)
def qvv (_n:Nat) (c0:UInt8):OA :=
 bif (decide ((65:UInt8)≤c0)) then
 bif (decide (c0≤(90:UInt8))) then
 qkb (c0 ||| (32:UInt8))
 else
 qkb c0
 else
 qkb c0
def qBJ (s2:LU):OA:=some (.dat (.sl .byte) s2 (some (2,5)))
def qfi (k0:LU→OA) (next:LU→Int→Int→OA) (_n:Nat) (out3:LU) (s9:Int) (s10:Int):OA :=
 bif (decide (s10 < s9)) then
 bif ((decide ((0:Int)≤s10))&&(decide (s10 < (length out3:Nat)))) then
 bif ((decide ((0:Int)≤s10))&&(decide (s10 < (length out3:Nat)))) then
 next (set out3 (toNat s10) (z126 (getD out3 (toNat s10) (0:UInt8)))) s9 (wrap .i64 (s10+(1:Int)))
 else none
 else none
 else
 k0 out3
def qkc (k0:LU→OA):Nat→LU→Int→Int→OA
 | 0=>fun _ _ _=>none
 | n+1=>qfi k0 (qkc k0 n) n
def qho (_n:Nat) (out3:LU):OA :=
 qBJ out3
def qAm (n:Nat) (s0:LU):OA :=
 bif ((qdP s0)&&true) then
 qkc (qho n) n (z38 s0) ((length (z38 s0):Nat):Int) (0:Int)
 else none
def qlz (s2:Int):OA:=some (.dat (.int .i64) s2 none)
def qEe (_n:Nat) (s0:LU):OA :=
 bif ((qrh s0)&&true) then
 bif ((z79 s0)==([98]:LU)) then
 qlz (1:Int)
 else
 bif ((z79 s0)==([113]:LU)) then
 qlz (2:Int)
 else
 qlz (0:Int)
 else none
def qi (s2:Int):OA:=some (.dat (.int .i64) s2 none)
def qvw (_n:Nat) (c0:UInt8):OA :=
 bif (decide (c0 < (32:UInt8))) then
 bif (c0==(32:UInt8)) then
 qi (bits .or .i64 (bits .or .i64 (0:Int) (1:Int)) (2:Int))
 else
 bif (c0==(9:UInt8)) then
 qi (bits .or .i64 (bits .or .i64 (0:Int) (1:Int)) (2:Int))
 else
 bif (decide ((48:UInt8)≤c0)) then
 bif (decide (c0≤(57:UInt8))) then
 qi (bits .or .i64 (bits .or .i64 (0:Int) (1:Int)) (648:Int))
 else
 bif (decide ((65:UInt8)≤c0)) then
 bif (decide (c0≤(90:UInt8))) then
 bif (decide (c0≤(90:UInt8))) then
 qi (bits .or .i64 (bits .or .i64 (0:Int) (1:Int)) (656:Int))
 else
 qi (bits .or .i64 (0:Int) (1:Int))
 else
 bif (decide ((97:UInt8)≤c0)) then
 bif (decide (c0≤(122:UInt8))) then
 qi (bits .or .i64 (bits .or .i64 (0:Int) (1:Int)) (656:Int))
 else
 qi (bits .or .i64 (0:Int) (1:Int))
 else
 qi (bits .or .i64 (0:Int) (1:Int))
 else
 bif (decide ((97:UInt8)≤c0)) then
 bif (decide (c0≤(122:UInt8))) then
 qi (bits .or .i64 (bits .or .i64 (0:Int) (1:Int)) (656:Int))
 else
 qi (bits .or .i64 (0:Int) (1:Int))
 else
 qi (bits .or .i64 (0:Int) (1:Int))
 else
 bif (decide ((65:UInt8)≤c0)) then
 bif (decide (c0≤(90:UInt8))) then
 bif (decide (c0≤(90:UInt8))) then
 qi (bits .or .i64 (bits .or .i64 (0:Int) (1:Int)) (656:Int))
 else
 qi (bits .or .i64 (0:Int) (1:Int))
 else
 bif (decide ((97:UInt8)≤c0)) then
 bif (decide (c0≤(122:UInt8))) then
 qi (bits .or .i64 (bits .or .i64 (0:Int) (1:Int)) (656:Int))
 else
 qi (bits .or .i64 (0:Int) (1:Int))
 else
 qi (bits .or .i64 (0:Int) (1:Int))
 else
 bif (decide ((97:UInt8)≤c0)) then
 bif (decide (c0≤(122:UInt8))) then
 qi (bits .or .i64 (bits .or .i64 (0:Int) (1:Int)) (656:Int))
 else
 qi (bits .or .i64 (0:Int) (1:Int))
 else
 qi (bits .or .i64 (0:Int) (1:Int))
 else
 bif (c0==(127:UInt8)) then
 bif (c0==(32:UInt8)) then
 qi (bits .or .i64 (bits .or .i64 (0:Int) (1:Int)) (2:Int))
 else
 bif (c0==(9:UInt8)) then
 qi (bits .or .i64 (bits .or .i64 (0:Int) (1:Int)) (2:Int))
 else
 bif (decide ((48:UInt8)≤c0)) then
 bif (decide (c0≤(57:UInt8))) then
 qi (bits .or .i64 (bits .or .i64 (0:Int) (1:Int)) (648:Int))
 else
 bif (decide ((65:UInt8)≤c0)) then
 bif (decide (c0≤(90:UInt8))) then
 bif (decide (c0≤(90:UInt8))) then
 qi (bits .or .i64 (bits .or .i64 (0:Int) (1:Int)) (656:Int))
 else
 qi (bits .or .i64 (0:Int) (1:Int))
 else
 bif (decide ((97:UInt8)≤c0)) then
 bif (decide (c0≤(122:UInt8))) then
 qi (bits .or .i64 (bits .or .i64 (0:Int) (1:Int)) (656:Int))
 else
 qi (bits .or .i64 (0:Int) (1:Int))
 else
 qi (bits .or .i64 (0:Int) (1:Int))
 else
 bif (decide ((97:UInt8)≤c0)) then
 bif (decide (c0≤(122:UInt8))) then
 qi (bits .or .i64 (bits .or .i64 (0:Int) (1:Int)) (656:Int))
 else
 qi (bits .or .i64 (0:Int) (1:Int))
 else
 qi (bits .or .i64 (0:Int) (1:Int))
 else
 bif (decide ((65:UInt8)≤c0)) then
 bif (decide (c0≤(90:UInt8))) then
 bif (decide (c0≤(90:UInt8))) then
 qi (bits .or .i64 (bits .or .i64 (0:Int) (1:Int)) (656:Int))
 else
 qi (bits .or .i64 (0:Int) (1:Int))
 else
 bif (decide ((97:UInt8)≤c0)) then
 bif (decide (c0≤(122:UInt8))) then
 qi (bits .or .i64 (bits .or .i64 (0:Int) (1:Int)) (656:Int))
 else
 qi (bits .or .i64 (0:Int) (1:Int))
 else
 qi (bits .or .i64 (0:Int) (1:Int))
 else
 bif (decide ((97:UInt8)≤c0)) then
 bif (decide (c0≤(122:UInt8))) then
 qi (bits .or .i64 (bits .or .i64 (0:Int) (1:Int)) (656:Int))
 else
 qi (bits .or .i64 (0:Int) (1:Int))
 else
 qi (bits .or .i64 (0:Int) (1:Int))
 else
 bif (c0==(32:UInt8)) then
 qi (bits .or .i64 (0:Int) (2:Int))
 else
 bif (c0==(9:UInt8)) then
 qi (bits .or .i64 (0:Int) (2:Int))
 else
 bif (decide ((48:UInt8)≤c0)) then
 bif (decide (c0≤(57:UInt8))) then
 qi (bits .or .i64 (0:Int) (648:Int))
 else
 bif (decide ((65:UInt8)≤c0)) then
 bif (decide (c0≤(90:UInt8))) then
 bif (decide (c0≤(90:UInt8))) then
 qi (bits .or .i64 (0:Int) (656:Int))
 else
 qi (0:Int)
 else
 bif (decide ((97:UInt8)≤c0)) then
 bif (decide (c0≤(122:UInt8))) then
 qi (bits .or .i64 (0:Int) (656:Int))
 else
 qi (0:Int)
 else
 qi (0:Int)
 else
 bif (decide ((97:UInt8)≤c0)) then
 bif (decide (c0≤(122:UInt8))) then
 qi (bits .or .i64 (0:Int) (656:Int))
 else
 qi (0:Int)
 else
 qi (0:Int)
 else
 bif (decide ((65:UInt8)≤c0)) then
 bif (decide (c0≤(90:UInt8))) then
 bif (decide (c0≤(90:UInt8))) then
 qi (bits .or .i64 (0:Int) (656:Int))
 else
 qi (0:Int)
 else
 bif (decide ((97:UInt8)≤c0)) then
 bif (decide (c0≤(122:UInt8))) then
 qi (bits .or .i64 (0:Int) (656:Int))
 else
 qi (0:Int)
 else
 qi (0:Int)
 else
 bif (decide ((97:UInt8)≤c0)) then
 bif (decide (c0≤(122:UInt8))) then
 qi (bits .or .i64 (0:Int) (656:Int))
 else
 qi (0:Int)
 else
 qi (0:Int)
def qvx (s4:Int):OA:=some (.dat (.int .i64) s4 none)
def qBK (_n:Nat) (s0:LU) (c1:UInt8):OA :=
 qvx (z241 s0 c1)
def qvy (s4:Int):OA:=some (.dat (.int .i64) s4 none)
def qBL (_n:Nat) (s0:LU) (c1:UInt8):OA :=
 qvy (z229 s0 c1)
def qvz (s4:Bool):OA:=some (.dat .bool s4 none)
def qBM (_n:Nat) (s0:LU) (c1:UInt8):OA :=
 qvz (decide ((0:Int)≤(z192 s0 c1)))
def qaa (s2:Int):OA:=some (.dat (.int .i64) s2 none)
def qvA (_n:Nat) (c0:UInt8):OA :=
 bif (decide (c0 < (33:UInt8))) then
 qaa (z214 c0)
 else
 bif (decide ((126:UInt8) < c0)) then
 qaa (z214 c0)
 else
 bif (z215 ([33,42,43,45,47]:LU) c0) then
 bif (z215 ([43,47]:LU) c0) then
 bif (z215 ([40,41,60,62,64,44,59,58,92,34,47,91,93,63,61]:LU) c0) then
 qaa (bits .or .i64 (bits .or .i64 (bits .or .i64 (bits .or .i64 (z214 c0) (4:Int)) (128:Int)) (512:Int)) (32:Int))
 else
 bif (!(z215 ([42,39,37]:LU) c0)) then
 qaa (bits .or .i64 (bits .or .i64 (bits .or .i64 (bits .or .i64 (bits .or .i64 (z214 c0) (4:Int)) (128:Int)) (512:Int)) (64:Int)) (256:Int))
 else
 qaa (bits .or .i64 (bits .or .i64 (bits .or .i64 (bits .or .i64 (z214 c0) (4:Int)) (128:Int)) (512:Int)) (64:Int))
 else
 bif (z215 ([40,41,60,62,64,44,59,58,92,34,47,91,93,63,61]:LU) c0) then
 qaa (bits .or .i64 (bits .or .i64 (bits .or .i64 (z214 c0) (4:Int)) (128:Int)) (32:Int))
 else
 bif (!(z215 ([42,39,37]:LU) c0)) then
 qaa (bits .or .i64 (bits .or .i64 (bits .or .i64 (bits .or .i64 (z214 c0) (4:Int)) (128:Int)) (64:Int)) (256:Int))
 else
 qaa (bits .or .i64 (bits .or .i64 (bits .or .i64 (z214 c0) (4:Int)) (128:Int)) (64:Int))
 else
 bif (z215 ([43,47]:LU) c0) then
 bif (z215 ([40,41,60,62,64,44,59,58,92,34,47,91,93,63,61]:LU) c0) then
 qaa (bits .or .i64 (bits .or .i64 (bits .or .i64 (z214 c0) (4:Int)) (512:Int)) (32:Int))
 else
 bif (!(z215 ([42,39,37]:LU) c0)) then
 qaa (bits .or .i64 (bits .or .i64 (bits .or .i64 (bits .or .i64 (z214 c0) (4:Int)) (512:Int)) (64:Int)) (256:Int))
 else
 qaa (bits .or .i64 (bits .or .i64 (bits .or .i64 (z214 c0) (4:Int)) (512:Int)) (64:Int))
 else
 bif (z215 ([40,41,60,62,64,44,59,58,92,34,47,91,93,63,61]:LU) c0) then
 qaa (bits .or .i64 (bits .or .i64 (z214 c0) (4:Int)) (32:Int))
 else
 bif (!(z215 ([42,39,37]:LU) c0)) then
 qaa (bits .or .i64 (bits .or .i64 (bits .or .i64 (z214 c0) (4:Int)) (64:Int)) (256:Int))
 else
 qaa (bits .or .i64 (bits .or .i64 (z214 c0) (4:Int)) (64:Int))
def qvB (s4:Bool):OA:=some (.dat .bool s4 none)
def qBN (_n:Nat) (c0:UInt8) (kinds1:Int):OA :=
 qvB ((bits .and .i64 (z180 c0) kinds1) != (0:Int))
def qvC (s4:Int):OA:=some (.dat (.int .i64) s4 none)
def qcM (k0:Int→OA) (next:Int→Int→LU→Int→Int→OA) (_n:Nat) (kinds1:Int) (n5:Int) (s8:LU) (s9:Int) (s10:Int):OA :=
 bif (decide (s10 < s9)) then
 bif ((decide ((0:Int)≤s10))&&(decide (s10 < (length s8:Nat)))) then
 bif (z129 (getD s8 (toNat s10) (0:UInt8)) kinds1) then
 next kinds1 (wrap .i64 (n5+(1:Int))) s8 s9 (wrap .i64 (s10+(1:Int)))
 else
 next kinds1 n5 s8 s9 (wrap .i64 (s10+(1:Int)))
 else none
 else
 k0 n5
def qep (k0:Int→OA):Nat→Int→Int→LU→Int→Int→OA
 | 0=>fun _ _ _ _ _=>none
 | n+1=>qcM k0 (qep k0 n) n
def qeq (_n:Nat) (n5:Int):OA :=
 qvC n5
def qpe (n:Nat) (s0:LU) (kinds1:Int):OA :=
 qep (qeq n) n kinds1 (0:Int) s0 ((length s0:Nat):Int) (0:Int)
def qvD (s4:Bool):OA:=some (.dat .bool s4 none)
def qEf (_n:Nat) (s0:LU) (kinds1:Int):OA :=
 bif ((qpN s0 kinds1)&&true) then
 qvD ((z127 s0 kinds1)==((length s0:Nat):Int))
 else none
def qvE (s4:Bool):OA:=some (.dat .bool s4 none)
def qEg (_n:Nat) (s0:LU) (kinds1:Int):OA :=
 bif (decide ((0:Int) < ((length s0:Nat):Int))) then
 bif ((qri s0 kinds1)&&true) then
 qvE (z80 s0 kinds1)
 else none
 else
 qvE false
def qA (s2:LU×(Int×(LU×Unit))) (s3:Int):OA:=some (.tup [(.dat (.pair (.sl .byte) (.pair (.int .i64) (.pair (.sl .byte) .unit))) s2 none),(.dat (.int .i64) s3 none)])
def qEh (_n:Nat) (s0:LU):OA :=
 bif ((qxa s0 ([(63:UInt8)]:LU))&&true) then
 bif (((length (z37 s0 ([(63:UInt8)]:LU)):Nat):Int) != (5:Int)) then
 qA (([]:LU),((0:Int),(([]:LU),()))) (3:Int)
 else
 bif ((decide ((0:Int)≤(0:Int)))&&(decide ((0:Int) < (length (z37 s0 ([(63:UInt8)]:LU)):Nat)))) then
 bif ((getD (z37 s0 ([(63:UInt8)]:LU)) (toNat (0:Int)) ([]:LU)) != ([61]:LU)) then
 qA (([]:LU),((0:Int),(([]:LU),()))) (3:Int)
 else
 bif ((decide ((0:Int)≤(4:Int)))&&(decide ((4:Int) < (length (z37 s0 ([(63:UInt8)]:LU)):Nat)))) then
 bif ((getD (z37 s0 ([(63:UInt8)]:LU)) (toNat (4:Int)) ([]:LU)) != ([61]:LU)) then
 qA (([]:LU),((0:Int),(([]:LU),()))) (3:Int)
 else
 bif ((decide ((0:Int)≤(1:Int)))&&(decide ((1:Int) < (length (z37 s0 ([(63:UInt8)]:LU)):Nat)))) then
 bif ((decide ((0:Int)≤(2:Int)))&&(decide ((2:Int) < (length (z37 s0 ([(63:UInt8)]:LU)):Nat)))) then
 bif ((decide ((0:Int)≤(3:Int)))&&(decide ((3:Int) < (length (z37 s0 ([(63:UInt8)]:LU)):Nat)))) then
 both (
 bif ((qdP (getD (z37 s0 ([(63:UInt8)]:LU)) (toNat (1:Int)) ([]:LU)))&&true) then
 both (
 bif ((qrg (getD (z37 s0 ([(63:UInt8)]:LU)) (toNat (2:Int)) ([]:LU)))&&true) then
 both (
 bif ((qdP (getD (z37 s0 ([(63:UInt8)]:LU)) (toNat (3:Int)) ([]:LU)))&&true) then
 both (
 bif (((z38 (getD (z37 s0 ([(63:UInt8)]:LU)) (toNat (1:Int)) ([]:LU))),((z39 (getD (z37 s0 ([(63:UInt8)]:LU)) (toNat (2:Int)) ([]:LU))),((z38 (getD (z37 s0 ([(63:UInt8)]:LU)) (toNat (3:Int)) ([]:LU))),()))).2.1==(0:Int)) then
 qA (([]:LU),((0:Int),(([]:LU),()))) (3:Int)
 else
 bif ((qeI ((z38 (getD (z37 s0 ([(63:UInt8)]:LU)) (toNat (1:Int)) ([]:LU))),((z39 (getD (z37 s0 ([(63:UInt8)]:LU)) (toNat (2:Int)) ([]:LU))),((z38 (getD (z37 s0 ([(63:UInt8)]:LU)) (toNat (3:Int)) ([]:LU))),()))).1 (64:Int))&&true) then
 bif (!(z40 ((z38 (getD (z37 s0 ([(63:UInt8)]:LU)) (toNat (1:Int)) ([]:LU))),((z39 (getD (z37 s0 ([(63:UInt8)]:LU)) (toNat (2:Int)) ([]:LU))),((z38 (getD (z37 s0 ([(63:UInt8)]:LU)) (toNat (3:Int)) ([]:LU))),()))).1 (64:Int))) then
 qA (([]:LU),((0:Int),(([]:LU),()))) (3:Int)
 else
 bif ((qeI ((z38 (getD (z37 s0 ([(63:UInt8)]:LU)) (toNat (1:Int)) ([]:LU))),((z39 (getD (z37 s0 ([(63:UInt8)]:LU)) (toNat (2:Int)) ([]:LU))),((z38 (getD (z37 s0 ([(63:UInt8)]:LU)) (toNat (3:Int)) ([]:LU))),()))).2.2.1 (4:Int))&&true) then
 bif (!(z40 ((z38 (getD (z37 s0 ([(63:UInt8)]:LU)) (toNat (1:Int)) ([]:LU))),((z39 (getD (z37 s0 ([(63:UInt8)]:LU)) (toNat (2:Int)) ([]:LU))),((z38 (getD (z37 s0 ([(63:UInt8)]:LU)) (toNat (3:Int)) ([]:LU))),()))).2.2.1 (4:Int))) then
 qA (([]:LU),((0:Int),(([]:LU),()))) (3:Int)
 else
 bif (decide ((75:Int) < ((length s0:Nat):Int))) then
 qA (([]:LU),((0:Int),(([]:LU),()))) (12:Int)
 else
 qA ((z38 (getD (z37 s0 ([(63:UInt8)]:LU)) (toNat (1:Int)) ([]:LU))),((z39 (getD (z37 s0 ([(63:UInt8)]:LU)) (toNat (2:Int)) ([]:LU))),((z38 (getD (z37 s0 ([(63:UInt8)]:LU)) (toNat (3:Int)) ([]:LU))),()))) (0:Int)
 else none
 else none) (
 bif (((z38 (getD (z37 s0 ([(63:UInt8)]:LU)) (toNat (1:Int)) ([]:LU))),((z39 (getD (z37 s0 ([(63:UInt8)]:LU)) (toNat (2:Int)) ([]:LU))),((z38 (getD (z37 s0 ([(63:UInt8)]:LU)) (toNat (3:Int)) ([]:LU))),()))).2.1==(0:Int)) then
 qA (([]:LU),((0:Int),(([]:LU),()))) (3:Int)
 else
 bif ((qeI ((z38 (getD (z37 s0 ([(63:UInt8)]:LU)) (toNat (1:Int)) ([]:LU))),((z39 (getD (z37 s0 ([(63:UInt8)]:LU)) (toNat (2:Int)) ([]:LU))),((z38 (getD (z37 s0 ([(63:UInt8)]:LU)) (toNat (3:Int)) ([]:LU))),()))).1 (64:Int))&&true) then
 bif (!(z40 ((z38 (getD (z37 s0 ([(63:UInt8)]:LU)) (toNat (1:Int)) ([]:LU))),((z39 (getD (z37 s0 ([(63:UInt8)]:LU)) (toNat (2:Int)) ([]:LU))),((z38 (getD (z37 s0 ([(63:UInt8)]:LU)) (toNat (3:Int)) ([]:LU))),()))).1 (64:Int))) then
 qA (([]:LU),((0:Int),(([]:LU),()))) (3:Int)
 else
 bif ((qeI ((z38 (getD (z37 s0 ([(63:UInt8)]:LU)) (toNat (1:Int)) ([]:LU))),((z39 (getD (z37 s0 ([(63:UInt8)]:LU)) (toNat (2:Int)) ([]:LU))),((z38 (getD (z37 s0 ([(63:UInt8)]:LU)) (toNat (3:Int)) ([]:LU))),()))).2.2.1 (4:Int))&&true) then
 bif (!(z40 ((z38 (getD (z37 s0 ([(63:UInt8)]:LU)) (toNat (1:Int)) ([]:LU))),((z39 (getD (z37 s0 ([(63:UInt8)]:LU)) (toNat (2:Int)) ([]:LU))),((z38 (getD (z37 s0 ([(63:UInt8)]:LU)) (toNat (3:Int)) ([]:LU))),()))).2.2.1 (4:Int))) then
 qA (([]:LU),((0:Int),(([]:LU),()))) (3:Int)
 else
 bif (decide ((75:Int) < ((length s0:Nat):Int))) then
 qA (([]:LU),((0:Int),(([]:LU),()))) (12:Int)
 else
 qA ((z38 (getD (z37 s0 ([(63:UInt8)]:LU)) (toNat (1:Int)) ([]:LU))),((z39 (getD (z37 s0 ([(63:UInt8)]:LU)) (toNat (2:Int)) ([]:LU))),((z38 (getD (z37 s0 ([(63:UInt8)]:LU)) (toNat (3:Int)) ([]:LU))),()))) (0:Int)
 else none
 else none)
 else none) (
 bif ((qdP (getD (z37 s0 ([(63:UInt8)]:LU)) (toNat (3:Int)) ([]:LU)))&&true) then
 bif (((z38 (getD (z37 s0 ([(63:UInt8)]:LU)) (toNat (1:Int)) ([]:LU))),((z39 (getD (z37 s0 ([(63:UInt8)]:LU)) (toNat (2:Int)) ([]:LU))),((z38 (getD (z37 s0 ([(63:UInt8)]:LU)) (toNat (3:Int)) ([]:LU))),()))).2.1==(0:Int)) then
 qA (([]:LU),((0:Int),(([]:LU),()))) (3:Int)
 else
 bif ((qeI ((z38 (getD (z37 s0 ([(63:UInt8)]:LU)) (toNat (1:Int)) ([]:LU))),((z39 (getD (z37 s0 ([(63:UInt8)]:LU)) (toNat (2:Int)) ([]:LU))),((z38 (getD (z37 s0 ([(63:UInt8)]:LU)) (toNat (3:Int)) ([]:LU))),()))).1 (64:Int))&&true) then
 bif (!(z40 ((z38 (getD (z37 s0 ([(63:UInt8)]:LU)) (toNat (1:Int)) ([]:LU))),((z39 (getD (z37 s0 ([(63:UInt8)]:LU)) (toNat (2:Int)) ([]:LU))),((z38 (getD (z37 s0 ([(63:UInt8)]:LU)) (toNat (3:Int)) ([]:LU))),()))).1 (64:Int))) then
 qA (([]:LU),((0:Int),(([]:LU),()))) (3:Int)
 else
 bif ((qeI ((z38 (getD (z37 s0 ([(63:UInt8)]:LU)) (toNat (1:Int)) ([]:LU))),((z39 (getD (z37 s0 ([(63:UInt8)]:LU)) (toNat (2:Int)) ([]:LU))),((z38 (getD (z37 s0 ([(63:UInt8)]:LU)) (toNat (3:Int)) ([]:LU))),()))).2.2.1 (4:Int))&&true) then
 bif (!(z40 ((z38 (getD (z37 s0 ([(63:UInt8)]:LU)) (toNat (1:Int)) ([]:LU))),((z39 (getD (z37 s0 ([(63:UInt8)]:LU)) (toNat (2:Int)) ([]:LU))),((z38 (getD (z37 s0 ([(63:UInt8)]:LU)) (toNat (3:Int)) ([]:LU))),()))).2.2.1 (4:Int))) then
 qA (([]:LU),((0:Int),(([]:LU),()))) (3:Int)
 else
 bif (decide ((75:Int) < ((length s0:Nat):Int))) then
 qA (([]:LU),((0:Int),(([]:LU),()))) (12:Int)
 else
 qA ((z38 (getD (z37 s0 ([(63:UInt8)]:LU)) (toNat (1:Int)) ([]:LU))),((z39 (getD (z37 s0 ([(63:UInt8)]:LU)) (toNat (2:Int)) ([]:LU))),((z38 (getD (z37 s0 ([(63:UInt8)]:LU)) (toNat (3:Int)) ([]:LU))),()))) (0:Int)
 else none
 else none
 else none)
 else none) (
 bif ((qrg (getD (z37 s0 ([(63:UInt8)]:LU)) (toNat (2:Int)) ([]:LU)))&&true) then
 bif ((qdP (getD (z37 s0 ([(63:UInt8)]:LU)) (toNat (3:Int)) ([]:LU)))&&true) then
 bif (((z38 (getD (z37 s0 ([(63:UInt8)]:LU)) (toNat (1:Int)) ([]:LU))),((z39 (getD (z37 s0 ([(63:UInt8)]:LU)) (toNat (2:Int)) ([]:LU))),((z38 (getD (z37 s0 ([(63:UInt8)]:LU)) (toNat (3:Int)) ([]:LU))),()))).2.1==(0:Int)) then
 qA (([]:LU),((0:Int),(([]:LU),()))) (3:Int)
 else
 bif ((qeI ((z38 (getD (z37 s0 ([(63:UInt8)]:LU)) (toNat (1:Int)) ([]:LU))),((z39 (getD (z37 s0 ([(63:UInt8)]:LU)) (toNat (2:Int)) ([]:LU))),((z38 (getD (z37 s0 ([(63:UInt8)]:LU)) (toNat (3:Int)) ([]:LU))),()))).1 (64:Int))&&true) then
 bif (!(z40 ((z38 (getD (z37 s0 ([(63:UInt8)]:LU)) (toNat (1:Int)) ([]:LU))),((z39 (getD (z37 s0 ([(63:UInt8)]:LU)) (toNat (2:Int)) ([]:LU))),((z38 (getD (z37 s0 ([(63:UInt8)]:LU)) (toNat (3:Int)) ([]:LU))),()))).1 (64:Int))) then
 qA (([]:LU),((0:Int),(([]:LU),()))) (3:Int)
 else
 bif ((qeI ((z38 (getD (z37 s0 ([(63:UInt8)]:LU)) (toNat (1:Int)) ([]:LU))),((z39 (getD (z37 s0 ([(63:UInt8)]:LU)) (toNat (2:Int)) ([]:LU))),((z38 (getD (z37 s0 ([(63:UInt8)]:LU)) (toNat (3:Int)) ([]:LU))),()))).2.2.1 (4:Int))&&true) then
 bif (!(z40 ((z38 (getD (z37 s0 ([(63:UInt8)]:LU)) (toNat (1:Int)) ([]:LU))),((z39 (getD (z37 s0 ([(63:UInt8)]:LU)) (toNat (2:Int)) ([]:LU))),((z38 (getD (z37 s0 ([(63:UInt8)]:LU)) (toNat (3:Int)) ([]:LU))),()))).2.2.1 (4:Int))) then
 qA (([]:LU),((0:Int),(([]:LU),()))) (3:Int)
 else
 bif (decide ((75:Int) < ((length s0:Nat):Int))) then
 qA (([]:LU),((0:Int),(([]:LU),()))) (12:Int)
 else
 qA ((z38 (getD (z37 s0 ([(63:UInt8)]:LU)) (toNat (1:Int)) ([]:LU))),((z39 (getD (z37 s0 ([(63:UInt8)]:LU)) (toNat (2:Int)) ([]:LU))),((z38 (getD (z37 s0 ([(63:UInt8)]:LU)) (toNat (3:Int)) ([]:LU))),()))) (0:Int)
 else none
 else none
 else none
 else none)
 else none) (
 bif ((qdP (getD (z37 s0 ([(63:UInt8)]:LU)) (toNat (1:Int)) ([]:LU)))&&true) then
 bif ((qrg (getD (z37 s0 ([(63:UInt8)]:LU)) (toNat (2:Int)) ([]:LU)))&&true) then
 bif ((qdP (getD (z37 s0 ([(63:UInt8)]:LU)) (toNat (3:Int)) ([]:LU)))&&true) then
 bif (((z38 (getD (z37 s0 ([(63:UInt8)]:LU)) (toNat (1:Int)) ([]:LU))),((z39 (getD (z37 s0 ([(63:UInt8)]:LU)) (toNat (2:Int)) ([]:LU))),((z38 (getD (z37 s0 ([(63:UInt8)]:LU)) (toNat (3:Int)) ([]:LU))),()))).2.1==(0:Int)) then
 qA (([]:LU),((0:Int),(([]:LU),()))) (3:Int)
 else
 bif ((qeI ((z38 (getD (z37 s0 ([(63:UInt8)]:LU)) (toNat (1:Int)) ([]:LU))),((z39 (getD (z37 s0 ([(63:UInt8)]:LU)) (toNat (2:Int)) ([]:LU))),((z38 (getD (z37 s0 ([(63:UInt8)]:LU)) (toNat (3:Int)) ([]:LU))),()))).1 (64:Int))&&true) then
 bif (!(z40 ((z38 (getD (z37 s0 ([(63:UInt8)]:LU)) (toNat (1:Int)) ([]:LU))),((z39 (getD (z37 s0 ([(63:UInt8)]:LU)) (toNat (2:Int)) ([]:LU))),((z38 (getD (z37 s0 ([(63:UInt8)]:LU)) (toNat (3:Int)) ([]:LU))),()))).1 (64:Int))) then
 qA (([]:LU),((0:Int),(([]:LU),()))) (3:Int)
 else
 bif ((qeI ((z38 (getD (z37 s0 ([(63:UInt8)]:LU)) (toNat (1:Int)) ([]:LU))),((z39 (getD (z37 s0 ([(63:UInt8)]:LU)) (toNat (2:Int)) ([]:LU))),((z38 (getD (z37 s0 ([(63:UInt8)]:LU)) (toNat (3:Int)) ([]:LU))),()))).2.2.1 (4:Int))&&true) then
 bif (!(z40 ((z38 (getD (z37 s0 ([(63:UInt8)]:LU)) (toNat (1:Int)) ([]:LU))),((z39 (getD (z37 s0 ([(63:UInt8)]:LU)) (toNat (2:Int)) ([]:LU))),((z38 (getD (z37 s0 ([(63:UInt8)]:LU)) (toNat (3:Int)) ([]:LU))),()))).2.2.1 (4:Int))) then
 qA (([]:LU),((0:Int),(([]:LU),()))) (3:Int)
 else
 bif (decide ((75:Int) < ((length s0:Nat):Int))) then
 qA (([]:LU),((0:Int),(([]:LU),()))) (12:Int)
 else
 qA ((z38 (getD (z37 s0 ([(63:UInt8)]:LU)) (toNat (1:Int)) ([]:LU))),((z39 (getD (z37 s0 ([(63:UInt8)]:LU)) (toNat (2:Int)) ([]:LU))),((z38 (getD (z37 s0 ([(63:UInt8)]:LU)) (toNat (3:Int)) ([]:LU))),()))) (0:Int)
 else none
 else none
 else none
 else none
 else none)
 else none
 else none
 else none
 else none
 else none
 else none
def qBO (s2:Bool):OA:=some (.dat .bool s2 none)
def qEi (_n:Nat) (s0:LU):OA :=
 bif ((qie s0)&&true) then
 qBO (((z11 s0).2)==(0:Int))
 else none
def qvF (s2:Bool):OA:=some (.dat .bool s2 none)
def qEj (_n:Nat) (n0:Int):OA :=
 bif (decide ((1:Int)≤n0)) then
 qvF (decide (n0≤(5:Int)))
 else
 qvF false
def qpf (s2:LU):OA:=some (.dat .str s2 none)
def qEk (_n:Nat) (n0:Int):OA :=
 bif (n0==(1:Int)) then
 qpf ([66]:LU)
 else
 bif (n0==(2:Int)) then
 qpf ([81]:LU)
 else
 qpf ([]:LU)
def qpg (s2:Int):OA:=some (.dat (.int .i64) s2 none)
def qEl (_n:Nat) (c0:UInt8):OA :=
 bif (c0==(32:UInt8)) then
 qpg (1:Int)
 else
 bif (z129 c0 (128:Int)) then
 qpg (1:Int)
 else
 qpg (3:Int)
def qBP (s2:Int):OA:=some (.dat (.int .i64) s2 none)
def qfj (k0:Int→OA) (next:Int→LU→Int→Int→OA) (_n:Nat) (n3:Int) (s6:LU) (s7:Int) (s8:Int):OA :=
 bif (decide (s8 < s7)) then
 bif ((decide ((0:Int)≤s8))&&(decide (s8 < (length s6:Nat)))) then
 next (wrap .i64 (n3+(z84 (getD s6 (toNat s8) (0:UInt8))))) s6 s7 (wrap .i64 (s8+(1:Int)))
 else none
 else
 k0 n3
def qnh (k0:Int→OA):Nat→Int→LU→Int→Int→OA
 | 0=>fun _ _ _ _=>none
 | n+1=>qfj k0 (qnh k0 n) n
def qhp (_n:Nat) (n3:Int):OA :=
 qBP n3
def qAn (n:Nat) (s0:LU):OA :=
 qnh (qhp n) n (0:Int) s0 ((length s0:Nat):Int) (0:Int)
def qvG (s2:UInt8):OA:=some (.dat .byte s2 none)
def qvH (_n:Nat) (n0:Int):OA :=
 bif ((decide ((0:Int)≤(bits .and .i64 n0 (15:Int))))&&(decide ((bits .and .i64 n0 (15:Int)) < (length ([48,49,50,51,52,53,54,55,56,57,65,66,67,68,69,70]:LU):Nat)))) then
 qvG (getD ([48,49,50,51,52,53,54,55,56,57,65,66,67,68,69,70]:LU) (toNat (bits .and .i64 n0 (15:Int))) (0:UInt8))
 else none
def qvI (s2:LU):OA:=some (.dat (.sl .byte) s2 (some (2,5)))
def qvJ (_n:Nat) (c0:UInt8):OA :=
 bif ((qdp (wrap .i64 ((UInt8.toNat (ofNat (UInt8.toNat c0 / 2 ^ (min (toNat (4:Int)) 8))):Nat):Int)))&&true) then
 bif ((qdp (wrap .i64 ((UInt8.toNat c0:Nat):Int)))&&true) then
 qvI ([(z181 (wrap .i64 ((UInt8.toNat (ofNat (UInt8.toNat c0 / 2 ^ (min (toNat (4:Int)) 8))):Nat):Int))),(z181 (wrap .i64 ((UInt8.toNat c0:Nat):Int)))]:LU)
 else none
 else none
def qBQ (s6:LU):OA:=some (.dat (.sl .byte) s6 (some (6,5)))
def qEm (_n:Nat) (b0:LU) (sign1:UInt8) (c2:UInt8):OA :=
 bif ((qdP b0)&&true) then
 bif (decide (length (z38 b0)+length ([sign1]:LU)≤room)) then
 bif (decide (length ((z38 b0)++([sign1]:LU))+length (z130 c2)≤room)) then
 qBQ (((z38 b0)++([sign1]:LU))++(z130 c2))
 else none
 else none
 else none
def qlA (s2:LU):OA:=some (.dat (.sl .byte) s2 (some (2,5)))
def qfk (k0:LU→OA) (next:LU→LU→Int→Int→OA) (_n:Nat) (out3:LU) (s9:LU) (s10:Int) (s11:Int):OA :=
 bif (decide (s11 < s10)) then
 bif ((decide ((0:Int)≤s11))&&(decide (s11 < (length s9:Nat)))) then
 bif ((getD s9 (toNat s11) (0:UInt8))==(32:UInt8)) then
 bif (decide (length out3+length ([(95:UInt8)]:LU)≤room)) then
 next (out3++([(95:UInt8)]:LU)) s9 s10 (wrap .i64 (s11+(1:Int)))
 else none
 else
 bif ((z84 (getD s9 (toNat s11) (0:UInt8)))==(1:Int)) then
 bif (decide (length out3+length ([(getD s9 (toNat s11) (0:UInt8))]:LU)≤room)) then
 next (out3++([(getD s9 (toNat s11) (0:UInt8))]:LU)) s9 s10 (wrap .i64 (s11+(1:Int)))
 else none
 else
 bif ((qzd out3 (61:UInt8) (getD s9 (toNat s11) (0:UInt8)))&&true) then
 next (z85 out3 (61:UInt8) (getD s9 (toNat s11) (0:UInt8))) s9 s10 (wrap .i64 (s11+(1:Int)))
 else none
 else none
 else
 k0 out3
def qni (k0:LU→OA):Nat→LU→LU→Int→Int→OA
 | 0=>fun _ _ _ _=>none
 | n+1=>qfk k0 (qni k0 n) n
def qhq (_n:Nat) (out3:LU):OA :=
 qlA out3
def qAo (n:Nat) (s0:LU):OA :=
 bif ((qqL s0)&&true) then
 bif (((decide ((0:Int)≤(0:Int)))&&(decide ((0:Int)≤(z83 s0))))&&(decide ((z83 s0)≤(room:Int)))) then
 qni (qhq n) n (replicate (toNat (0:Int)) (0:UInt8)) s0 ((length s0:Nat):Int) (0:Int)
 else none
 else none
def qvK (s2:UInt8):OA:=some (.dat .byte s2 none)
def qvL (_n:Nat) (n0:Int):OA :=
 bif ((decide ((0:Int)≤(bits .and .i64 n0 (63:Int))))&&(decide ((bits .and .i64 n0 (63:Int)) < (length ([65,66,67,68,69,70,71,72,73,74,75,76,77,78,79,80,81,82,83,84,85,86,87,88,89,90,97,98,99,100,101,102,103,104,105,106,107,108,109,110,111,112,113,114,115,116,117,118,119,120,121,122,48,49,50,51,52,53,54,55,56,57,43,47]:LU):Nat)))) then
 qvK (getD ([65,66,67,68,69,70,71,72,73,74,75,76,77,78,79,80,81,82,83,84,85,86,87,88,89,90,97,98,99,100,101,102,103,104,105,106,107,108,109,110,111,112,113,114,115,116,117,118,119,120,121,122,48,49,50,51,52,53,54,55,56,57,43,47]:LU) (toNat (bits .and .i64 n0 (63:Int))) (0:UInt8))
 else none
def qlB (s2:LU):OA:=some (.dat (.sl .byte) s2 (some (2,5)))
def qvM (k2:LU→Int→Int→LU→Int→Int→OA) (next:LU→Int→Int→LU→Int→Int→OA) (_n:Nat) (out3:LU) (held4:Int) (many5:Int) (s8:LU) (s9:Int) (s10:Int):OA :=
 bif (decide ((6:Int)≤many5)) then
 bif (decide ((0:Int)≤(wrap .i64 (many5 - (6:Int))))) then
 bif (decide (length out3+length ([(z132 (Int.fdiv held4 (2 ^ (min (toNat (wrap .i64 (many5 - (6:Int)))) (IntKind.bits .i64)))))]:LU)≤room)) then
 next (out3++([(z132 (Int.fdiv held4 (2 ^ (min (toNat (wrap .i64 (many5 - (6:Int)))) (IntKind.bits .i64)))))]:LU)) held4 (wrap .i64 (many5 - (6:Int))) s8 s9 s10
 else none
 else none
 else
 k2 out3 held4 many5 s8 s9 s10
def qfl (k2:LU→Int→Int→LU→Int→Int→OA):Nat→LU→Int→Int→LU→Int→Int→OA
 | 0=>fun _ _ _ _ _ _=>none
 | n+1=>qvM k2 (qfl k2 n) n
def qcA (_k0:LU→Int→Int→OA) (next:LU→Int→Int→LU→Int→Int→OA) (_n:Nat) (out3:LU) (held4:Int) (many5:Int) (s8:LU) (s9:Int) (s10:Int):OA :=
 bif (decide ((0:Int)≤many5)) then
 next out3 (bits .and .i64 held4 (wrap .i64 ((wrap .i64 ((1:Int)*2 ^ (min (toNat many5) (IntKind.bits .i64)))) - (1:Int)))) many5 s8 s9 (wrap .i64 (s10+(1:Int)))
 else none
def qdF (k0:LU→Int→Int→OA) (next:LU→Int→Int→LU→Int→Int→OA) (n:Nat) (out3:LU) (held4:Int) (many5:Int) (s8:LU) (s9:Int) (s10:Int):OA :=
 bif (decide (s10 < s9)) then
 bif ((decide ((0:Int)≤s10))&&(decide (s10 < (length s8:Nat)))) then
 qfl (qcA k0 next n) n out3 (bits .or .i64 (wrap .i64 (held4*2 ^ (min (toNat (8:Int)) (IntKind.bits .i64)))) (wrap .i64 ((UInt8.toNat (getD s8 (toNat s10) (0:UInt8)):Nat):Int))) (wrap .i64 (many5+(8:Int))) s8 s9 s10
 else none
 else
 k0 out3 held4 many5
def qnj (k0:LU→Int→Int→OA):Nat→LU→Int→Int→LU→Int→Int→OA
 | 0=>fun _ _ _ _ _ _=>none
 | n+1=>qdF k0 (qnj k0 n) n
def qdG (_n:Nat) (out3:LU) (held4:Int) (many5:Int):OA :=
 bif (decide ((0:Int) < many5)) then
 bif (decide ((0:Int)≤(wrap .i64 ((6:Int) - many5)))) then
 bif (decide (length out3+length ([(z132 (wrap .i64 (held4*2 ^ (min (toNat (wrap .i64 ((6:Int) - many5))) (IntKind.bits .i64)))))]:LU)≤room)) then
 qlB (out3++([(z132 (wrap .i64 (held4*2 ^ (min (toNat (wrap .i64 ((6:Int) - many5))) (IntKind.bits .i64)))))]:LU))
 else none
 else none
 else
 qlB out3
def qAp (n:Nat) (s0:LU):OA :=
 qnj (qdG n) n ([]:LU) (0:Int) (0:Int) s0 ((length s0:Nat):Int) (0:Int)
def qdH (s2:List LU):OA:=some (.dat (.sl .str) s2 (some (2,9)))
def qvN (_n:Nat) (charset0:Int):OA :=
 bif (charset0==(1:Int)) then
 qdH ([([117,115,45,97,115,99,105,105]:LU),([97,115,99,105,105]:LU),([97,110,115,105,95,120,51,46,52,45,49,57,54,56]:LU),([105,115,111,54,52,54,45,117,115]:LU)]:List LU)
 else
 bif (charset0==(2:Int)) then
 qdH ([([105,115,111,45,56,56,53,57,45,49]:LU),([105,115,111,95,56,56,53,57,45,49]:LU),([108,97,116,105,110,49]:LU),([108,49]:LU)]:List LU)
 else
 bif (charset0==(3:Int)) then
 qdH ([([105,115,111,45,56,56,53,57,45,49,53]:LU),([105,115,111,95,56,56,53,57,45,49,53]:LU),([108,97,116,105,110,45,57]:LU)]:List LU)
 else
 bif (charset0==(4:Int)) then
 qdH ([([119,105,110,100,111,119,115,45,49,50,53,50]:LU),([99,112,49,50,53,50]:LU)]:List LU)
 else
 bif (charset0==(5:Int)) then
 qdH ([([117,116,102,45,56]:LU),([117,116,102,56]:LU)]:List LU)
 else
 qdH ([]:List LU)
def qvO (s2:LU):OA:=some (.dat .str s2 none)
def qEn (_n:Nat) (charset0:Int):OA :=
 bif (((length (z133 charset0):Nat):Int)==(0:Int)) then
 qvO ([]:LU)
 else
 bif ((decide ((0:Int)≤(0:Int)))&&(decide ((0:Int) < (length (z133 charset0):Nat)))) then
 qvO (getD (z133 charset0) (toNat (0:Int)) ([]:LU))
 else none
def qBR (s4:LU):OA:=some (.dat .str s4 none)
def qEo (_n:Nat) (charset0:Int) (code1:Int):OA :=
 bif (decide (length ([61,63]:LU)+length (z89 charset0)≤9223372036854775807)) then
 bif (decide (length (([61,63]:LU)++(z89 charset0))+length ([63]:LU)≤9223372036854775807)) then
 bif (decide (length ((([61,63]:LU)++(z89 charset0))++([63]:LU))+length (z45 code1)≤9223372036854775807)) then
 bif (decide (length (((([61,63]:LU)++(z89 charset0))++([63]:LU))++(z45 code1))+length ([63]:LU)≤9223372036854775807)) then
 qBR ((((([61,63]:LU)++(z89 charset0))++([63]:LU))++(z45 code1))++([63]:LU))
 else none
 else none
 else none
 else none
def qfK (s6:LU) (s7:Int):OA:=some (.tup [(.dat (.sl .byte) s6 none),(.dat (.int .i64) s7 none)])
def qEp (_n:Nat) (charset0:Int) (code1:Int) (s2:LU):OA :=
 bif (!(z44 charset0)) then
 qfK ([]:LU) (10:Int)
 else
 bif ((z45 code1)==([]:LU)) then
 qfK ([]:LU) (3:Int)
 else
 bif (((length s2:Nat):Int)==(0:Int)) then
 qfK ([]:LU) (3:Int)
 else
 bif ((qzq s2)&&true) then
 bif (code1==(1:Int)) then
 bif ((qDi s2)&&true) then
 bif (decide (length (z48 charset0 code1)≤room)) then
 bif (decide (length (z48 charset0 code1)+length (z47 s2)≤room)) then
 bif (decide (length ((z48 charset0 code1)++(z47 s2))+length ([63,61]:LU)≤room)) then
 bif (decide ((75:Int) < ((length (((z48 charset0 code1)++(z47 s2))++([63,61]:LU)):Nat):Int))) then
 qfK ([]:LU) (12:Int)
 else
 qfK (((z48 charset0 code1)++(z47 s2))++([63,61]:LU)) (0:Int)
 else none
 else none
 else none
 else none
 else
 bif (decide (length (z48 charset0 code1)≤room)) then
 bif (decide (length (z48 charset0 code1)+length (z46 s2)≤room)) then
 bif (decide (length ((z48 charset0 code1)++(z46 s2))+length ([63,61]:LU)≤room)) then
 bif (decide ((75:Int) < ((length (((z48 charset0 code1)++(z46 s2))++([63,61]:LU)):Nat):Int))) then
 qfK ([]:LU) (12:Int)
 else
 qfK (((z48 charset0 code1)++(z46 s2))++([63,61]:LU)) (0:Int)
 else none
 else none
 else none
 else none
def qlC (s2:Int):OA:=some (.dat (.int .i64) s2 none)
def qEq (_n:Nat) (charset0:Int):OA :=
 bif (!(z44 charset0)) then
 qlC (0:Int)
 else
 qlC (wrap .i64 ((wrap .i64 (((length (z48 charset0 (2:Int)):Nat):Int)+(1:Int)))+(1:Int)))
def qvP (s2:LI):OA:=some (.dat (.sl (.int .i32)) s2 (some (2,21)))
def qfm (k0:LI→OA) (next:LI→LU→Int→Int→OA) (_n:Nat) (t3:LI) (s9:LU) (s10:Int) (s11:Int):OA :=
 bif (decide (s11 < s10)) then
 bif ((decide ((0:Int)≤s11))&&(decide (s11 < (length s9:Nat)))) then
 bif ((decide ((0:Int)≤s11))&&(decide (s11 < (length t3:Nat)))) then
 next (set t3 (toNat s11) (wrap .i32 ((UInt8.toNat (getD s9 (toNat s11) (0:UInt8)):Nat):Int))) s9 s10 (wrap .i64 (s11+(1:Int)))
 else none
 else none
 else
 k0 t3
def qnk (k0:LI→OA):Nat→LI→LU→Int→Int→OA
 | 0=>fun _ _ _ _=>none
 | n+1=>qfm k0 (qnk k0 n) n
def qhr (_n:Nat) (t3:LI):OA :=
 qvP t3
def qAq (n:Nat) (s0:LU):OA :=
 bif (((decide ((0:Int)≤((length s0:Nat):Int)))&&(decide (((length s0:Nat):Int)≤((length s0:Nat):Int))))&&(decide (((length s0:Nat):Int)≤(room:Int)))) then
 qnk (qhr n) n (replicate (toNat ((length s0:Nat):Int)) (0:Int)) s0 ((length s0:Nat):Int) (0:Int)
 else none
def qnl (s2:Int):OA:=some (.dat (.int .i32) s2 none)
def qvQ (_n:Nat) (c0:Int):OA :=
 bif (decide ((128:Int)≤c0)) then
 qnl (65533:Int)
 else
 qnl c0
def qvR (s2:LI):OA:=some (.dat (.sl (.int .i32)) s2 (some (2,21)))
def qfn (k0:LI→OA) (next:LI→Int→Int→OA) (_n:Nat) (t3:LI) (s10:Int) (s11:Int):OA :=
 bif (decide (s11 < s10)) then
 bif ((decide ((0:Int)≤s11))&&(decide (s11 < (length t3:Nat)))) then
 bif ((decide ((0:Int)≤s11))&&(decide (s11 < (length t3:Nat)))) then
 next (set t3 (toNat s11) (z138 (getD t3 (toNat s11) (0:Int)))) s10 (wrap .i64 (s11+(1:Int)))
 else none
 else none
 else
 k0 t3
def qnm (k0:LI→OA):Nat→LI→Int→Int→OA
 | 0=>fun _ _ _=>none
 | n+1=>qfn k0 (qnm k0 n) n
def qhs (_n:Nat) (t3:LI):OA :=
 qvR t3
def qAr (n:Nat) (s0:LU):OA :=
 bif ((qqM s0)&&true) then
 qnm (qhs n) n (z97 s0) ((length (z97 s0):Nat):Int) (0:Int)
 else none
def qvS (s0:List (UInt8×(Int×Unit))):OA:=some (.dat (.arr 8 (.pair .byte (.pair (.int .i32) .unit))) s0 none)
def qBS (_n:Nat):OA :=
 qvS ([((164:UInt8),((8364:Int),())),((166:UInt8),((352:Int),())),((168:UInt8),((353:Int),())),((180:UInt8),((381:Int),())),((184:UInt8),((382:Int),())),((188:UInt8),((338:Int),())),((189:UInt8),((339:Int),())),((190:UInt8),((376:Int),()))]:List (UInt8×(Int×Unit)))
def qar (s2:Int):OA:=some (.dat (.int .i32) s2 none)
def qph (ret:Int→OA) (k0:UInt8→OA) (next:UInt8→List (UInt8×(Int×Unit))→Int→OA) (_n:Nat) (x0:UInt8) (s5:List (UInt8×(Int×Unit))) (s6:Int):OA :=
 bif (decide (s6 < (8:Int))) then
 bif ((decide ((0:Int)≤s6))&&(decide (s6 < (8:Nat)))) then
 bif ((getD s5 (toNat s6) ((0:UInt8),((0:Int),()))).1==x0) then
 ret (getD s5 (toNat s6) ((0:UInt8),((0:Int),()))).2.1
 else
 next x0 s5 (wrap .i64 (s6+(1:Int)))
 else none
 else
 k0 x0
def qiy (ret:Int→OA) (k0:UInt8→OA):Nat→UInt8→List (UInt8×(Int×Unit))→Int→OA
 | 0=>fun _ _ _=>none
 | n+1=>qph ret k0 (qiy ret k0 n) n
def qgo (_n:Nat) (x0:UInt8):OA :=
 qar (wrap .i32 ((UInt8.toNat x0:Nat):Int))
def qpi (n:Nat) (x0:UInt8):OA :=
 qiy qar (qgo n) n x0 z185 (0:Int)
def qBT (s2:LI):OA:=some (.dat (.sl (.int .i32)) s2 (some (2,21)))
def qfo (k0:LI→OA) (next:LI→LU→Int→Int→OA) (_n:Nat) (t3:LI) (s6:LU) (s7:Int) (s8:Int):OA :=
 bif (decide (s8 < s7)) then
 bif ((decide ((0:Int)≤s8))&&(decide (s8 < (length s6:Nat)))) then
 bif (decide (length t3+length ([(z139 (getD s6 (toNat s8) (0:UInt8)))]:LI)≤room)) then
 next (t3++([(z139 (getD s6 (toNat s8) (0:UInt8)))]:LI)) s6 s7 (wrap .i64 (s8+(1:Int)))
 else none
 else none
 else
 k0 t3
def qnn (k0:LI→OA):Nat→LI→LU→Int→Int→OA
 | 0=>fun _ _ _ _=>none
 | n+1=>qfo k0 (qnn k0 n) n
def qfp (_n:Nat) (t3:LI):OA :=
 qBT t3
def qAs (n:Nat) (s0:LU):OA :=
 qnn (qfp n) n ([]:LI) s0 ((length s0:Nat):Int) (0:Int)
def qvT (s0:LI):OA:=some (.dat (.sl (.int .i32)) s0 none)
def qBU (_n:Nat):OA :=
 qvT (drop 0 (take 32 ([(8364:Int),(0:Int),(8218:Int),(402:Int),(8222:Int),(8230:Int),(8224:Int),(8225:Int),(710:Int),(8240:Int),(352:Int),(8249:Int),(338:Int),(0:Int),(381:Int),(0:Int),(0:Int),(8216:Int),(8217:Int),(8220:Int),(8221:Int),(8226:Int),(8211:Int),(8212:Int),(732:Int),(8482:Int),(353:Int),(8250:Int),(339:Int),(0:Int),(382:Int),(376:Int)]:LI)))
def qht (s2:Int):OA:=some (.dat (.int .i32) s2 none)
def qvU (_n:Nat) (x0:UInt8):OA :=
 bif (decide (x0 < (128:UInt8))) then
 qht (wrap .i32 ((UInt8.toNat x0:Nat):Int))
 else
 bif (decide ((160:UInt8)≤x0)) then
 qht (wrap .i32 ((UInt8.toNat x0:Nat):Int))
 else
 bif ((decide ((0:Int)≤((UInt8.toNat (x0 - (128:UInt8)):Nat):Int)))&&(decide (((UInt8.toNat (x0 - (128:UInt8)):Nat):Int) < (length z186:Nat)))) then
 bif ((getD z186 (toNat ((UInt8.toNat (x0 - (128:UInt8)):Nat):Int)) (0:Int)) != (0:Int)) then
 qht (getD z186 (toNat ((UInt8.toNat (x0 - (128:UInt8)):Nat):Int)) (0:Int))
 else
 qht (65533:Int)
 else none
def qBV (s2:LI):OA:=some (.dat (.sl (.int .i32)) s2 (some (2,21)))
def qfq (k0:LI→OA) (next:LI→LU→Int→Int→OA) (_n:Nat) (t3:LI) (s9:LU) (s10:Int) (s11:Int):OA :=
 bif (decide (s11 < s10)) then
 bif ((decide ((0:Int)≤s11))&&(decide (s11 < (length s9:Nat)))) then
 bif (decide (length t3+length ([(z140 (getD s9 (toNat s11) (0:UInt8)))]:LI)≤room)) then
 next (t3++([(z140 (getD s9 (toNat s11) (0:UInt8)))]:LI)) s9 s10 (wrap .i64 (s11+(1:Int)))
 else none
 else none
 else
 k0 t3
def qno (k0:LI→OA):Nat→LI→LU→Int→Int→OA
 | 0=>fun _ _ _ _=>none
 | n+1=>qfq k0 (qno k0 n) n
def qfr (_n:Nat) (t3:LI):OA :=
 qBV t3
def qAt (n:Nat) (s0:LU):OA :=
 bif (((decide ((0:Int)≤(0:Int)))&&(decide ((0:Int)≤((length s0:Nat):Int))))&&(decide (((length s0:Nat):Int)≤(room:Int)))) then
 qno (qfr n) n (replicate (toNat (0:Int)) (0:Int)) s0 ((length s0:Nat):Int) (0:Int)
 else none
def qnp (s13:LI):OA:=some (.tup [(.tup []),.bad,.bad,(.pbox (.osl 21 (.int .i32)) s13 none)])
def qvV (_n:Nat) (c0:Int) (e1:Int) (x2:LI):OA :=
 bif (e1 != (0:Int)) then
 bif (decide (length x2+length ([(65533:Int)]:LI)≤room)) then
 qnp (x2++([(65533:Int)]:LI))
 else none
 else
 bif (decide (length x2+length ([c0]:LI)≤room)) then
 qnp (x2++([c0]:LI))
 else none
def qdI (s2:Int):OA:=some (.dat (.int .i64) s2 none)
def qvW (_n:Nat) (c0:UInt8):OA :=
 bif (decide (c0 < (128:UInt8))) then
 qdI (1:Int)
 else
 bif (decide (c0 < (194:UInt8))) then
 qdI (0:Int)
 else
 bif (decide ((244:UInt8) < c0)) then
 qdI (0:Int)
 else
 bif (decide (c0 < (224:UInt8))) then
 qdI (2:Int)
 else
 bif (decide (c0 < (240:UInt8))) then
 qdI (3:Int)
 else
 qdI (4:Int)
def qvX (s2:Bool):OA:=some (.dat .bool s2 none)
def qvY (_n:Nat) (c0:UInt8):OA :=
 qvX ((c0 &&& ~~~ (63:UInt8))==(128:UInt8))
def qbD (s4:Bool):OA:=some (.dat .bool s4 none)
def qvZ (_n:Nat) (first0:UInt8) (c1:UInt8):OA :=
 bif (first0==(224:UInt8)) then
 bif (decide ((160:UInt8)≤c1)) then
 qbD (z235 c1)
 else
 qbD false
 else
 bif (first0==(237:UInt8)) then
 bif (decide (c1 < (160:UInt8))) then
 qbD (z235 c1)
 else
 qbD false
 else
 bif (first0==(240:UInt8)) then
 bif (decide ((144:UInt8)≤c1)) then
 qbD (z235 c1)
 else
 qbD false
 else
 bif (first0==(244:UInt8)) then
 bif (decide (c1 < (144:UInt8))) then
 qbD (z235 c1)
 else
 qbD false
 else
 qbD (z235 c1)
def qas (s2:Int):OA:=some (.dat (.int .i64) s2 none)
def qbe (ret:Int→OA) (k0:LU→Int→OA) (next:LU→Int→OA) (_n:Nat) (s0:LU) (n3:Int):OA :=
 bif ((decide ((0:Int)≤(0:Int)))&&(decide ((0:Int) < (length s0:Nat)))) then
 bif (decide (n3 < (z217 (getD s0 (toNat (0:Int)) (0:UInt8))))) then
 bif (decide (n3 < ((length s0:Nat):Int))) then
 bif ((decide ((0:Int)≤n3))&&(decide (n3 < (length s0:Nat)))) then
 bif (!(z235 (getD s0 (toNat n3) (0:UInt8)))) then
 ret n3
 else
 bif (n3==(1:Int)) then
 bif ((decide ((0:Int)≤(0:Int)))&&(decide ((0:Int) < (length s0:Nat)))) then
 bif ((decide ((0:Int)≤(1:Int)))&&(decide ((1:Int) < (length s0:Nat)))) then
 bif (!(z236 (getD s0 (toNat (0:Int)) (0:UInt8)) (getD s0 (toNat (1:Int)) (0:UInt8)))) then
 ret n3
 else
 next s0 (wrap .i64 (n3+(1:Int)))
 else none
 else none
 else
 next s0 (wrap .i64 (n3+(1:Int)))
 else none
 else
 k0 s0 n3
 else
 k0 s0 n3
 else none
def qfL (ret:Int→OA) (k0:LU→Int→OA):Nat→LU→Int→OA
 | 0=>fun _ _=>none
 | n+1=>qbe ret k0 (qfL ret k0 n) n
def qV (_n:Nat) (s0:LU) (n3:Int):OA :=
 bif ((decide ((0:Int)≤(0:Int)))&&(decide ((0:Int) < (length s0:Nat)))) then
 qas (bif (decide ((z217 (getD s0 (toNat (0:Int)) (0:UInt8))) < n3)) then (z217 (getD s0 (toNat (0:Int)) (0:UInt8))) else n3)
 else none
def qpj (n:Nat) (s0:LU):OA :=
 qfL qas (qV n) n s0 (1:Int)
def qhu (s2:UInt8):OA:=some (.dat .byte s2 none)
def qwa (_n:Nat) (n0:Int):OA :=
 bif (n0==(2:Int)) then
 qhu (192:UInt8)
 else
 bif (n0==(3:Int)) then
 qhu (224:UInt8)
 else
 bif (n0==(4:Int)) then
 qhu (240:UInt8)
 else
 qhu (0:UInt8)
def qbY (s2:Int) (s3:Int) (s4:Int):OA:=some (.tup [(.dat (.int .i32) s2 none),(.dat (.int .i64) s3 none),(.dat (.int .i64) s4 none)])
def qbO (k1:Int→Int→OA) (next:Int→Int→LU→Int→Int→OA) (_n:Nat) (n5:Int) (c6:Int) (s48:LU) (s49:Int) (s50:Int):OA :=
 bif (decide (s50 < s49)) then
 bif ((decide ((0:Int)≤s50))&&(decide (s50 < (length s48:Nat)))) then
 next n5 (bits .or .i32 (wrap .i32 (c6*2 ^ (min (toNat (6:Int)) (IntKind.bits .i32)))) (wrap .i32 ((UInt8.toNat ((getD s48 (toNat s50) (0:UInt8)) &&& (63:UInt8)):Nat):Int))) s48 s49 (wrap .i64 (s50+(1:Int)))
 else none
 else
 k1 n5 c6
def qcB (k1:Int→Int→OA):Nat→Int→Int→LU→Int→Int→OA
 | 0=>fun _ _ _ _ _=>none
 | n+1=>qbO k1 (qcB k1 n) n
def qbP (_n:Nat) (n5:Int) (c6:Int):OA :=
 qbY c6 n5 (0:Int)
def qpk (n:Nat) (s0:LU):OA :=
 bif (((length s0:Nat):Int)==(0:Int)) then
 qbY (0:Int) (0:Int) (4:Int)
 else
 bif ((qio s0)&&true) then
 bif ((z216 s0)==(0:Int)) then
 qbY (0:Int) (1:Int) (3:Int)
 else
 bif ((decide ((0:Int)≤(0:Int)))&&(decide ((0:Int) < (length s0:Nat)))) then
 bif (decide ((z216 s0) < (z217 (getD s0 (toNat (0:Int)) (0:UInt8))))) then
 bif ((z216 s0)==((length s0:Nat):Int)) then
 qbY (0:Int) (z216 s0) (4:Int)
 else
 bif ((decide ((0:Int)≤(0:Int)))&&(decide ((0:Int) < (length s0:Nat)))) then
 bif (decide ((z216 s0) < (z217 (getD s0 (toNat (0:Int)) (0:UInt8))))) then
 qbY (0:Int) (z216 s0) (3:Int)
 else
 bif ((decide ((0:Int)≤(0:Int)))&&(decide ((0:Int) < (length s0:Nat)))) then
 bif (((decide ((0:Int)≤(1:Int)))&&(decide ((1:Int)≤(z216 s0))))&&(decide ((z216 s0)≤((length s0:Nat):Int)))) then
 qcB (qbP n) n (z216 s0) (wrap .i32 ((UInt8.toNat ((getD s0 (toNat (0:Int)) (0:UInt8)) &&& ~~~ (z218 (z216 s0))):Nat):Int)) (drop (toNat (1:Int)) (take (toNat (z216 s0)) s0)) ((length (drop (toNat (1:Int)) (take (toNat (z216 s0)) s0)):Nat):Int) (0:Int)
 else none
 else none
 else none
 else
 bif ((decide ((0:Int)≤(0:Int)))&&(decide ((0:Int) < (length s0:Nat)))) then
 bif (decide ((z216 s0) < (z217 (getD s0 (toNat (0:Int)) (0:UInt8))))) then
 qbY (0:Int) (z216 s0) (3:Int)
 else
 bif ((decide ((0:Int)≤(0:Int)))&&(decide ((0:Int) < (length s0:Nat)))) then
 bif (((decide ((0:Int)≤(1:Int)))&&(decide ((1:Int)≤(z216 s0))))&&(decide ((z216 s0)≤((length s0:Nat):Int)))) then
 qcB (qbP n) n (z216 s0) (wrap .i32 ((UInt8.toNat ((getD s0 (toNat (0:Int)) (0:UInt8)) &&& ~~~ (z218 (z216 s0))):Nat):Int)) (drop (toNat (1:Int)) (take (toNat (z216 s0)) s0)) ((length (drop (toNat (1:Int)) (take (toNat (z216 s0)) s0)):Nat):Int) (0:Int)
 else none
 else none
 else none
 else none
 else none
def qat (s24:LI):OA:=some (.tup [(.tup []),.bad,(.pbox (.osl 21 (.int .i32)) s24 none)])
def qbZ (k0:LI→OA) (next:LU→LI→OA) (_n:Nat) (s0:LU) (s24:LI):OA :=
 bif (decide ((0:Int) < ((length s0:Nat):Int))) then
 bif ((qoH s0)&&true) then
 bif (qoS ((z187 s0).1) ((z187 s0).2.2) s24) then
 bif (((decide ((0:Int)≤((z187 s0).2.1)))&&(decide (((z187 s0).2.1)≤((length s0:Nat):Int))))&&(decide (((length s0:Nat):Int)≤((length s0:Nat):Int)))) then
 next (drop (toNat ((z187 s0).2.1)) (take (toNat ((length s0:Nat):Int)) s0)) (z142 ((z187 s0).1) ((z187 s0).2.2) s24)
 else none
 else none
 else none
 else
 k0 s24
def qaA (k0:LI→OA):Nat→LU→LI→OA
 | 0=>fun _ _=>none
 | n+1=>qbZ k0 (qaA k0 n) n
def qau (_n:Nat) (s24:LI):OA :=
 qat s24
def qhv (n:Nat) (s0:LU) (f1:LI):OA :=
 qaA (qau n) n s0 f1
def qBW (s2:LI):OA:=some (.dat (.sl (.int .i32)) s2 none)
def qEr (_n:Nat) (s0:LU):OA :=
 bif (qbL s0 ([]:LI)) then
 qBW (quY s0 ([]:LI))
 else none
def qiz (s4:LI):OA:=some (.dat (.sl (.int .i32)) s4 none)
def qEs (_n:Nat) (charset0:Int) (s1:LU):OA :=
 bif (charset0==(1:Int)) then
 bif ((qzh s1)&&true) then
 qiz (z93 s1)
 else none
 else
 bif (charset0==(3:Int)) then
 bif ((qzf s1)&&true) then
 qiz (z94 s1)
 else none
 else
 bif (charset0==(4:Int)) then
 bif ((qzg s1)&&true) then
 qiz (z95 s1)
 else none
 else
 bif (charset0==(5:Int)) then
 bif ((qze s1)&&true) then
 qiz (z96 s1)
 else none
 else
 bif ((qqM s1)&&true) then
 qiz (z97 s1)
 else none
def qwb (s0:List (LU×Int)):OA:=some (.abs (.sl (.pair .str (.int .i64))) (qak .str (.int .i64)) s0)
def qpl (k2:List (LU×Int)→Int→OA) (next:List (LU×Int)→Int→List LU→Int→Int→OA) (_n:Nat) (m1:List (LU×Int)) (n2:Int) (s11:List LU) (s12:Int) (s13:Int):OA :=
 bif (decide (s13 < s12)) then
 bif ((decide ((0:Int)≤s13))&&(decide (s13 < (length s11:Nat)))) then
 next (@putM .str (.int .i64) (getD s11 (toNat s13) ([]:LU)) n2 m1) n2 s11 s12 (wrap .i64 (s13+(1:Int)))
 else none
 else
 k2 m1 n2
def qiA (k2:List (LU×Int)→Int→OA):Nat→List (LU×Int)→Int→List LU→Int→Int→OA
 | 0=>fun _ _ _ _ _=>none
 | n+1=>qpl k2 (qiA k2 n) n
def qgp (_k0:List (LU×Int)→OA) (next:List (LU×Int)→Int→OA) (_n:Nat) (m1:List (LU×Int)) (n2:Int):OA :=
 next m1 (wrap .i64 (n2+(1:Int)))
def qkd (k0:List (LU×Int)→OA) (next:List (LU×Int)→Int→OA) (n:Nat) (m1:List (LU×Int)) (n2:Int):OA :=
 bif (decide (n2≤(5:Int))) then
 qiA (qgp k0 next n) n m1 n2 (z133 n2) ((length (z133 n2):Nat):Int) (0:Int)
 else
 k0 m1
def qiB (k0:List (LU×Int)→OA):Nat→List (LU×Int)→Int→OA
 | 0=>fun _ _=>none
 | n+1=>qkd k0 (qiB k0 n) n
def qgq (_n:Nat) (m1:List (LU×Int)):OA :=
 qwb m1
def qwc (n:Nat):OA :=
 qiB (qgq n) n ([]:List (LU×Int)) (1:Int)
def qnq (s4:LU):OA:=some (.dat (.sl .byte) s4 none)
def qpm (k0:LU→OA) (next:LU→UInt8→OA) (_n:Nat) (s0:LU) (c1:UInt8):OA :=
 bif (decide ((0:Int) < ((length s0:Nat):Int))) then
 bif ((decide ((0:Int)≤(0:Int)))&&(decide ((0:Int) < (length s0:Nat)))) then
 bif ((getD s0 (toNat (0:Int)) (0:UInt8))==c1) then
 bif (((decide ((0:Int)≤(1:Int)))&&(decide ((1:Int)≤((length s0:Nat):Int))))&&(decide (((length s0:Nat):Int)≤((length s0:Nat):Int)))) then
 next (drop (toNat (1:Int)) (take (toNat ((length s0:Nat):Int)) s0)) c1
 else none
 else
 k0 s0
 else none
 else
 k0 s0
def qiC (k0:LU→OA):Nat→LU→UInt8→OA
 | 0=>fun _ _=>none
 | n+1=>qpm k0 (qiC k0 n) n
def qgr (_n:Nat) (s0:LU):OA :=
 bif (((length s0:Nat):Int)==(0:Int)) then
 qnq ([]:LU)
 else
 qnq s0
def qwd (n:Nat) (s0:LU) (c1:UInt8):OA :=
 qiC (qgr n) n s0 c1
def qwe (s4:LU):OA:=some (.dat (.sl .byte) s4 none)
def qpn (k0:LU→OA) (next:LU→UInt8→OA) (_n:Nat) (s0:LU) (c1:UInt8):OA :=
 bif (decide ((0:Int) < ((length s0:Nat):Int))) then
 bif ((decide ((0:Int)≤(wrap .i64 (((length s0:Nat):Int) - (1:Int)))))&&(decide ((wrap .i64 (((length s0:Nat):Int) - (1:Int))) < (length s0:Nat)))) then
 bif ((getD s0 (toNat (wrap .i64 (((length s0:Nat):Int) - (1:Int)))) (0:UInt8))==c1) then
 bif (((decide ((0:Int)≤((0:Nat):Int)))&&(decide (((0:Nat):Int)≤(wrap .i64 (((length s0:Nat):Int) - (1:Int))))))&&(decide ((wrap .i64 (((length s0:Nat):Int) - (1:Int)))≤((length s0:Nat):Int)))) then
 next (drop (toNat ((0:Nat):Int)) (take (toNat (wrap .i64 (((length s0:Nat):Int) - (1:Int)))) s0)) c1
 else none
 else
 k0 s0
 else none
 else
 k0 s0
def qiD (k0:LU→OA):Nat→LU→UInt8→OA
 | 0=>fun _ _=>none
 | n+1=>qpn k0 (qiD k0 n) n
def qgs (_n:Nat) (s0:LU):OA :=
 qwe s0
def qwf (n:Nat) (s0:LU) (c1:UInt8):OA :=
 qiD (qgs n) n s0 c1
def qhw (as2:List Bool) (ok3:Bool):OA:=some (.tup [(.dat (.arr 256 .bool) as2 none),(.dat .bool ok3 none)])
def qcN (ret:List Bool→Bool→OA) (k0:List Bool→OA) (next:LU→List Bool→Int→OA) (_n:Nat) (chars0:LU) (as2:List Bool) (i4:Int):OA :=
 bif (decide (i4 < ((length chars0:Nat):Int))) then
 bif ((decide ((0:Int)≤i4))&&(decide (i4 < (length chars0:Nat)))) then
 bif (decide ((128:UInt8)≤(getD chars0 (toNat i4) (0:UInt8)))) then
 ret as2 false
 else
 bif ((decide ((0:Int)≤((UInt8.toNat (getD chars0 (toNat i4) (0:UInt8)):Nat):Int)))&&(decide (((UInt8.toNat (getD chars0 (toNat i4) (0:UInt8)):Nat):Int) < (256:Nat)))) then
 next chars0 (set as2 (toNat ((UInt8.toNat (getD chars0 (toNat i4) (0:UInt8)):Nat):Int)) true) (wrap .i64 (i4+(1:Int)))
 else none
 else none
 else
 k0 as2
def qer (ret:List Bool→Bool→OA) (k0:List Bool→OA):Nat→LU→List Bool→Int→OA
 | 0=>fun _ _ _=>none
 | n+1=>qcN ret k0 (qer ret k0 n) n
def qes (_n:Nat) (as2:List Bool):OA :=
 qhw as2 true
def qwg (n:Nat) (chars0:LU):OA :=
 qer qhw (qes n) n chars0 (replicate 256 false) (0:Int)
def qwh (s4:Bool):OA:=some (.dat .bool s4 none)
def qwi (_n:Nat) (as0:List Bool) (c1:UInt8):OA :=
 bif ((decide ((0:Int)≤((UInt8.toNat c1:Nat):Int)))&&(decide (((UInt8.toNat c1:Nat):Int) < (256:Nat)))) then
 qwh (getD as0 (toNat ((UInt8.toNat c1:Nat):Int)) false)
 else none
def qnr (s4:LU):OA:=some (.dat (.sl .byte) s4 none)
def qgt (k0:LU→OA) (next:LU→List Bool→OA) (_n:Nat) (s0:LU) (as1:List Bool):OA :=
 bif (decide ((0:Int) < ((length s0:Nat):Int))) then
 bif ((decide ((0:Int)≤(0:Int)))&&(decide ((0:Int) < (length s0:Nat)))) then
 bif (!(z238 as1 (getD s0 (toNat (0:Int)) (0:UInt8)))) then
 k0 s0
 else
 bif (((decide ((0:Int)≤(1:Int)))&&(decide ((1:Int)≤((length s0:Nat):Int))))&&(decide (((length s0:Nat):Int)≤((length s0:Nat):Int)))) then
 next (drop (toNat (1:Int)) (take (toNat ((length s0:Nat):Int)) s0)) as1
 else none
 else none
 else
 k0 s0
def qfM (k0:LU→OA):Nat→LU→List Bool→OA
 | 0=>fun _ _=>none
 | n+1=>qgt k0 (qfM k0 n) n
def qet (_n:Nat) (s0:LU):OA :=
 bif (((length s0:Nat):Int)==(0:Int)) then
 qnr ([]:LU)
 else
 qnr s0
def qpo (n:Nat) (s0:LU) (as1:List Bool):OA :=
 qfM (qet n) n s0 as1
def qwj (s4:LU):OA:=some (.dat (.sl .byte) s4 none)
def qgu (k0:LU→OA) (next:LU→List Bool→OA) (_n:Nat) (s0:LU) (as1:List Bool):OA :=
 bif (decide ((0:Int) < ((length s0:Nat):Int))) then
 bif ((decide ((0:Int)≤(wrap .i64 (((length s0:Nat):Int) - (1:Int)))))&&(decide ((wrap .i64 (((length s0:Nat):Int) - (1:Int))) < (length s0:Nat)))) then
 bif (!(z238 as1 (getD s0 (toNat (wrap .i64 (((length s0:Nat):Int) - (1:Int)))) (0:UInt8)))) then
 k0 s0
 else
 bif (((decide ((0:Int)≤((0:Nat):Int)))&&(decide (((0:Nat):Int)≤(wrap .i64 (((length s0:Nat):Int) - (1:Int))))))&&(decide ((wrap .i64 (((length s0:Nat):Int) - (1:Int)))≤((length s0:Nat):Int)))) then
 next (drop (toNat ((0:Nat):Int)) (take (toNat (wrap .i64 (((length s0:Nat):Int) - (1:Int)))) s0)) as1
 else none
 else none
 else
 k0 s0
def qfN (k0:LU→OA):Nat→LU→List Bool→OA
 | 0=>fun _ _=>none
 | n+1=>qgu k0 (qfN k0 n) n
def qgv (_n:Nat) (s0:LU):OA :=
 qwj s0
def qpp (n:Nat) (s0:LU) (as1:List Bool):OA :=
 qfN (qgv n) n s0 as1
def qcC (s4:LU):OA:=some (.dat (.sl .byte) s4 none)
def qwk (_n:Nat) (s0:LU) (cutset1:LU):OA :=
 bif (((length s0:Nat):Int)==(0:Int)) then
 qcC ([]:LU)
 else
 bif (cutset1==([]:LU)) then
 qcC s0
 else
 bif (((length cutset1:Nat):Int)==(1:Int)) then
 bif ((decide ((0:Int)≤(0:Int)))&&(decide ((0:Int) < (length cutset1:Nat)))) then
 bif (decide ((getD cutset1 (toNat (0:Int)) (0:UInt8)) < (128:UInt8))) then
 bif ((decide ((0:Int)≤(0:Int)))&&(decide ((0:Int) < (length cutset1:Nat)))) then
 bif ((decide ((0:Int)≤(0:Int)))&&(decide ((0:Int) < (length cutset1:Nat)))) then
 bif ((qxc s0 (getD cutset1 (toNat (0:Int)) (0:UInt8)))&&true) then
 bif ((qxb (z222 s0 (getD cutset1 (toNat (0:Int)) (0:UInt8))) (getD cutset1 (toNat (0:Int)) (0:UInt8)))&&true) then
 qcC (z221 (z222 s0 (getD cutset1 (toNat (0:Int)) (0:UInt8))) (getD cutset1 (toNat (0:Int)) (0:UInt8)))
 else none
 else none
 else none
 else none
 else
 bif ((qhV cutset1)&&true) then
 bif ((z223 cutset1).2) then
 bif ((qlU s0 ((z223 cutset1).1))&&true) then
 bif ((qlT (z225 s0 ((z223 cutset1).1)) ((z223 cutset1).1))&&true) then
 qcC (z224 (z225 s0 ((z223 cutset1).1)) ((z223 cutset1).1))
 else none
 else none
 else
 bif ((qxe s0 cutset1)&&true) then
 bif ((qxd (z227 s0 cutset1) cutset1)&&true) then
 qcC (z226 (z227 s0 cutset1) cutset1)
 else none
 else none
 else none
 else none
 else
 bif ((qhV cutset1)&&true) then
 bif ((z223 cutset1).2) then
 bif ((qlU s0 ((z223 cutset1).1))&&true) then
 bif ((qlT (z225 s0 ((z223 cutset1).1)) ((z223 cutset1).1))&&true) then
 qcC (z224 (z225 s0 ((z223 cutset1).1)) ((z223 cutset1).1))
 else none
 else none
 else
 bif ((qxe s0 cutset1)&&true) then
 bif ((qxd (z227 s0 cutset1) cutset1)&&true) then
 qcC (z226 (z227 s0 cutset1) cutset1)
 else none
 else none
 else none
def qwl (s2:LU):OA:=some (.dat (.sl .byte) s2 (some (2,5)))
def qwm (_n:Nat) (s0:LU):OA :=
 bif ((qiN s0 ([32,9]:LU))&&true) then
 bif ((qdP (z190 s0 ([32,9]:LU)))&&true) then
 qwl (z38 (z190 s0 ([32,9]:LU)))
 else none
 else none
def qns (s2:LU):OA:=some (.dat (.sl .byte) s2 (some (2,5)))
def qwn (_n:Nat) (s0:LU):OA :=
 bif (decide ((0:Int)≤(z109 s0 (42:UInt8)))) then
 bif (((decide ((0:Int)≤((0:Nat):Int)))&&(decide (((0:Nat):Int)≤(z109 s0 (42:UInt8)))))&&(decide ((z109 s0 (42:UInt8))≤((length s0:Nat):Int)))) then
 bif ((qiO (drop (toNat ((0:Nat):Int)) (take (toNat (z109 s0 (42:UInt8))) s0)))&&true) then
 qns (z148 (drop (toNat ((0:Nat):Int)) (take (toNat (z109 s0 (42:UInt8))) s0)))
 else none
 else none
 else
 bif ((qiO s0)&&true) then
 qns (z148 s0)
 else none
def qwo (s2:Int) (s3:Int):OA:=some (.tup [(.dat (.int .i64) s2 none),(.dat (.int .i64) s3 none)])
def qEt (_n:Nat) (s0:LU):OA :=
 bif ((qoK s0)&&true) then
 bif ((qrh (z107 s0))&&true) then
 bif (!(Option.isSome (@findM .str (.int .i64) (z79 (z107 s0)) z106))) then
 qwo (0:Int) (10:Int)
 else
 qwo (Option.getD (@findM .str (.int .i64) (z79 (z107 s0)) z106) (0:Int)) (0:Int)
 else none
 else none
def qwp (s2:Int):OA:=some (.dat (.int .i64) s2 none)
def qEu (_n:Nat) (w0:LU×(Int×(LU×Unit))):OA :=
 bif ((qqP w0.1)&&true) then
 bif (((z58 w0.1).2) != (0:Int)) then
 qwp (2:Int)
 else
 qwp ((z58 w0.1).1)
 else none
def qnt (s2:Int) (s3:Bool):OA:=some (.tup [(.dat (.int .i64) s2 none),(.dat .bool s3 none)])
def qBX (_n:Nat) (c0:UInt8):OA :=
 qnt (bif (decide ((0:Int) > (z192 ([65,66,67,68,69,70,71,72,73,74,75,76,77,78,79,80,81,82,83,84,85,86,87,88,89,90,97,98,99,100,101,102,103,104,105,106,107,108,109,110,111,112,113,114,115,116,117,118,119,120,121,122,48,49,50,51,52,53,54,55,56,57,43,47]:LU) c0))) then (0:Int) else (z192 ([65,66,67,68,69,70,71,72,73,74,75,76,77,78,79,80,81,82,83,84,85,86,87,88,89,90,97,98,99,100,101,102,103,104,105,106,107,108,109,110,111,112,113,114,115,116,117,118,119,120,121,122,48,49,50,51,52,53,54,55,56,57,43,47]:LU) c0)) (decide ((0:Int)≤(z192 ([65,66,67,68,69,70,71,72,73,74,75,76,77,78,79,80,81,82,83,84,85,86,87,88,89,90,97,98,99,100,101,102,103,104,105,106,107,108,109,110,111,112,113,114,115,116,117,118,119,120,121,122,48,49,50,51,52,53,54,55,56,57,43,47]:LU) c0)))
def qaR (V:Sigma Inv) (xv:Den V.1) (s29:LU):OA:=some (.tup [(.tup []),(.abs V.1 V.2 xv),(.pbox (.leaf (.sl .byte)) s29 none)])
def qcO (V:Sigma Inv) (ret:Den V.1→LU→OA) (k0:Den V.1→LU→OA) (next:LU→Int→Int→Den V.1→LU→OA) (_n:Nat) (s7:LU) (s8:Int) (s9:Int) (xv:Den V.1) (s29:LU):OA :=
 bif (decide (s9 < s8)) then
 bif ((decide ((0:Int)≤s9))&&(decide (s9 < (length s7:Nat)))) then
 bif ((getD s7 (toNat s9) (0:UInt8))==(61:UInt8)) then
 ret xv s29
 else
 bif (!((z150 (getD s7 (toNat s9) (0:UInt8))).2)) then
 bif (V.2.spec xv [⟨.byte,(getD s7 (toNat s9) (0:UInt8))⟩,⟨(.int .i64),(-1:Int)⟩]).1 then
 bif (!(V.2.spec xv [⟨.byte,(getD s7 (toNat s9) (0:UInt8))⟩,⟨(.int .i64),(-1:Int)⟩]).2.1) then
 ret (V.2.spec xv [⟨.byte,(getD s7 (toNat s9) (0:UInt8))⟩,⟨(.int .i64),(-1:Int)⟩]).2.2 s29
 else
 next s7 s8 (wrap .i64 (s9+(1:Int))) (V.2.spec xv [⟨.byte,(getD s7 (toNat s9) (0:UInt8))⟩,⟨(.int .i64),(-1:Int)⟩]).2.2 s29
 else none
 else
 bif (V.2.spec xv [⟨.byte,(getD s7 (toNat s9) (0:UInt8))⟩,⟨(.int .i64),((z150 (getD s7 (toNat s9) (0:UInt8))).1)⟩]).1 then
 bif (!(V.2.spec xv [⟨.byte,(getD s7 (toNat s9) (0:UInt8))⟩,⟨(.int .i64),((z150 (getD s7 (toNat s9) (0:UInt8))).1)⟩]).2.1) then
 ret (V.2.spec xv [⟨.byte,(getD s7 (toNat s9) (0:UInt8))⟩,⟨(.int .i64),((z150 (getD s7 (toNat s9) (0:UInt8))).1)⟩]).2.2 s29
 else
 next s7 s8 (wrap .i64 (s9+(1:Int))) (V.2.spec xv [⟨.byte,(getD s7 (toNat s9) (0:UInt8))⟩,⟨(.int .i64),((z150 (getD s7 (toNat s9) (0:UInt8))).1)⟩]).2.2 s29
 else none
 else none
 else
 k0 xv s29
def qeu (V:Sigma Inv) (ret:Den V.1→LU→OA) (k0:Den V.1→LU→OA):Nat→LU→Int→Int→Den V.1→LU→OA
 | 0=>fun _ _ _ _ _=>none
 | n+1=>(qcO V) ret k0 ((qeu V) ret k0 n) n
def qca (V:Sigma Inv) (_n:Nat) (xv:Den V.1) (s29:LU):OA :=
 (qaR V) xv s29
def qpq (V:Sigma Inv) (n:Nat) (x0:Den V.1) (x1:LU):OA :=
 (qeu V) (qaR V) ((qca V) n) n x1 ((length x1:Nat):Int) (0:Int) x0 x1
def qJs (_n:Nat) (s0:LU):OA :=
 some (.abs (qdC [.leaf (.sl .byte)]) (clInv 219 [.leaf (.sl .byte)]) (s0,()))
def qhx (s2:LU) (s3:Int):OA:=some (.tup [(.dat (.sl .byte) s2 none),(.dat (.int .i64) s3 none)])
def qaS (n:Nat) (x:Bool×LU×Int×Int×Unit) (y0:UInt8) (y1:Int):Bool×Bool×(Bool×LU×Int×Int×Unit) :=
 bif x.1 then (false,false,x) else yfin (.pair (.sl .byte) (.pair (.int .i64) (.pair (.int .i64) .unit))) x (
 bif (decide (y1 < (0:Int))) then
 some (.dat (.pair .bool (.pair (.sl .byte) (.pair (.int .i64) (.pair (.int .i64) .unit)))) (false,(x.2.1,(x.2.2.1,(x.2.2.2.1,())))) none)
 else
 bif (decide ((8:Int)≤(wrap .i64 (x.2.2.2.1+(6:Int))))) then
 bif (decide ((0:Int)≤(wrap .i64 ((wrap .i64 (x.2.2.2.1+(6:Int))) - (8:Int))))) then
 bif (decide (length x.2.1+length ([(ofNat (toNat (wrap .u8 (Int.fdiv (bits .or .i64 (wrap .i64 (x.2.2.1*2 ^ (min (toNat (6:Int)) (IntKind.bits .i64)))) y1) (2 ^ (min (toNat (wrap .i64 ((wrap .i64 (x.2.2.2.1+(6:Int))) - (8:Int)))) (IntKind.bits .i64)))))))]:LU)≤room)) then
 bif (decide ((0:Int)≤(wrap .i64 ((wrap .i64 (x.2.2.2.1+(6:Int))) - (8:Int))))) then
 some (.dat (.pair .bool (.pair (.sl .byte) (.pair (.int .i64) (.pair (.int .i64) .unit)))) (false,((x.2.1++([(ofNat (toNat (wrap .u8 (Int.fdiv (bits .or .i64 (wrap .i64 (x.2.2.1*2 ^ (min (toNat (6:Int)) (IntKind.bits .i64)))) y1) (2 ^ (min (toNat (wrap .i64 ((wrap .i64 (x.2.2.2.1+(6:Int))) - (8:Int)))) (IntKind.bits .i64)))))))]:LU)),((bits .and .i64 (bits .or .i64 (wrap .i64 (x.2.2.1*2 ^ (min (toNat (6:Int)) (IntKind.bits .i64)))) y1) (wrap .i64 ((wrap .i64 ((1:Int)*2 ^ (min (toNat (wrap .i64 ((wrap .i64 (x.2.2.2.1+(6:Int))) - (8:Int)))) (IntKind.bits .i64)))) - (1:Int)))),((wrap .i64 ((wrap .i64 (x.2.2.2.1+(6:Int))) - (8:Int))),())))) none)
 else none
 else none
 else none
 else
 some (.dat (.pair .bool (.pair (.sl .byte) (.pair (.int .i64) (.pair (.int .i64) .unit)))) (false,(x.2.1,((bits .or .i64 (wrap .i64 (x.2.2.1*2 ^ (min (toNat (6:Int)) (IntKind.bits .i64)))) y1),((wrap .i64 (x.2.2.2.1+(6:Int))),())))) none))
def qwq (n:Nat) (s0:LU):OA :=
 bif (z219 (qaS n) (false,(([]:LU),((0:Int),((0:Int),())))) s0).1 then
 bif (z219 (qaS n) (false,(([]:LU),((0:Int),((0:Int),())))) s0).2.1.1 then
 qhx ([]:LU) (0:Int)
 else
 both (
 both (
 qhx (z219 (qaS n) (false,(([]:LU),((0:Int),((0:Int),())))) s0).2.1.2.1 (z219 (qaS n) (false,(([]:LU),((0:Int),((0:Int),())))) s0).2.1.2.2.2.1) (
 qhx (z219 (qaS n) (false,(([]:LU),((0:Int),((0:Int),())))) s0).2.1.2.1 (z219 (qaS n) (false,(([]:LU),((0:Int),((0:Int),())))) s0).2.1.2.2.2.1)) (
 qhx (z219 (qaS n) (false,(([]:LU),((0:Int),((0:Int),())))) s0).2.1.2.1 (z219 (qaS n) (false,(([]:LU),((0:Int),((0:Int),())))) s0).2.1.2.2.2.1)
 else none
def qBY (s2:LU):OA:=some (.dat (.sl .byte) s2 none)
def qEv (_n:Nat) (s0:LU):OA :=
 bif ((qoO s0)&&true) then
 qBY ((z143 s0).1)
 else none
def qhy (s2:Int) (s3:Bool):OA:=some (.tup [(.dat (.int .i64) s2 none),(.dat .bool s3 none)])
def qwr (_n:Nat) (c0:UInt8):OA :=
 bif (z129 (z126 c0) (8:Int)) then
 qhy (wrap .i64 ((UInt8.toNat ((z126 c0) - (48:UInt8)):Nat):Int)) true
 else
 bif (decide ((97:UInt8)≤(z126 c0))) then
 bif (decide ((z126 c0)≤(102:UInt8))) then
 qhy (wrap .i64 ((wrap .i64 ((UInt8.toNat ((z126 c0) - (97:UInt8)):Nat):Int))+(10:Int))) true
 else
 qhy (0:Int) false
 else
 qhy (0:Int) false
def qke (s4:UInt8) (s5:Bool):OA:=some (.tup [(.dat .byte s4 none),(.dat .bool s5 none)])
def qws (_n:Nat) (a0:UInt8) (b1:UInt8):OA :=
 bif (!((z237 a0).2)) then
 qke (0:UInt8) false
 else
 bif (!((z237 b1).2)) then
 qke (0:UInt8) false
 else
 qke (ofNat (toNat (wrap .u8 (bits .or .i64 (wrap .i64 (((z237 a0).1)*2 ^ (min (toNat (4:Int)) (IntKind.bits .i64)))) ((z237 b1).1))))) true
def qhz (s6:UInt8) (s7:Bool):OA:=some (.tup [(.dat .byte s6 none),(.dat .bool s7 none)])
def qwt (_n:Nat) (s0:LU) (at1:Int) (sign2:UInt8):OA :=
 bif (decide (at1 < (0:Int))) then
 qhz (0:UInt8) false
 else
 bif (decide ((wrap .i64 (((length s0:Nat):Int) - (3:Int))) < at1)) then
 qhz (0:UInt8) false
 else
 bif ((decide ((0:Int)≤at1))&&(decide (at1 < (length s0:Nat)))) then
 bif ((getD s0 (toNat at1) (0:UInt8)) != sign2) then
 qhz (0:UInt8) false
 else
 bif ((decide ((0:Int)≤(wrap .i64 (at1+(1:Int)))))&&(decide ((wrap .i64 (at1+(1:Int))) < (length s0:Nat)))) then
 bif ((decide ((0:Int)≤(wrap .i64 (at1+(2:Int)))))&&(decide ((wrap .i64 (at1+(2:Int))) < (length s0:Nat)))) then
 qhz ((z220 (getD s0 (toNat (wrap .i64 (at1+(1:Int)))) (0:UInt8)) (getD s0 (toNat (wrap .i64 (at1+(2:Int)))) (0:UInt8))).1) ((z220 (getD s0 (toNat (wrap .i64 (at1+(1:Int)))) (0:UInt8)) (getD s0 (toNat (wrap .i64 (at1+(2:Int)))) (0:UInt8))).2)
 else none
 else none
 else none
def qhA (s2:LU) (s3:Int):OA:=some (.tup [(.dat (.sl .byte) s2 none),(.dat (.int .i64) s3 none)])
def qgw (k0:LU→Int→OA) (next:LU→LU→Int→Int→OA) (_n:Nat) (s0:LU) (out4:LU) (strange5:Int) (at6:Int):OA :=
 bif (decide (at6 < ((length s0:Nat):Int))) then
 bif ((decide ((0:Int)≤at6))&&(decide (at6 < (length s0:Nat)))) then
 bif ((getD s0 (toNat at6) (0:UInt8))==(95:UInt8)) then
 bif (decide (length out4+length ([(32:UInt8)]:LU)≤room)) then
 next s0 (out4++([(32:UInt8)]:LU)) strange5 (wrap .i64 (at6+(1:Int)))
 else none
 else
 bif ((getD s0 (toNat at6) (0:UInt8))==(61:UInt8)) then
 bif ((qoF s0 at6 (61:UInt8))&&true) then
 bif ((z189 s0 at6 (61:UInt8)).2) then
 bif (decide (length out4+length ([((z189 s0 at6 (61:UInt8)).1)]:LU)≤room)) then
 next s0 (out4++([((z189 s0 at6 (61:UInt8)).1)]:LU)) strange5 (wrap .i64 (at6+(3:Int)))
 else none
 else
 bif (decide (length out4+length ([(getD s0 (toNat at6) (0:UInt8))]:LU)≤room)) then
 next s0 (out4++([(getD s0 (toNat at6) (0:UInt8))]:LU)) (wrap .i64 (strange5+(1:Int))) (wrap .i64 (at6+(1:Int)))
 else none
 else none
 else
 bif (decide (length out4+length ([(getD s0 (toNat at6) (0:UInt8))]:LU)≤room)) then
 next s0 (out4++([(getD s0 (toNat at6) (0:UInt8))]:LU)) strange5 (wrap .i64 (at6+(1:Int)))
 else none
 else none
 else
 k0 out4 strange5
def qhB (k0:LU→Int→OA):Nat→LU→LU→Int→Int→OA
 | 0=>fun _ _ _ _=>none
 | n+1=>qgw k0 (qhB k0 n) n
def qev (_n:Nat) (out4:LU) (strange5:Int):OA :=
 qhA out4 strange5
def qwu (n:Nat) (s0:LU):OA :=
 qhB (qev n) n s0 ([]:LU) (0:Int) (0:Int)
def qBZ (s2:LU):OA:=some (.dat (.sl .byte) s2 none)
def qEw (_n:Nat) (s0:LU):OA :=
 bif ((qir s0)&&true) then
 qBZ ((z144 s0).1)
 else none
def qwv (s2:LU):OA:=some (.dat (.sl .byte) s2 none)
def qEx (_n:Nat) (w0:LU×(Int×(LU×Unit))):OA :=
 bif (w0.2.1==(1:Int)) then
 bif ((qzl w0.2.2.1)&&true) then
 qwv (z98 w0.2.2.1)
 else none
 else
 bif ((qzn w0.2.2.1)&&true) then
 qwv (z99 w0.2.2.1)
 else none
def qlD (s2:LI) (s3:Bool):OA:=some (.tup [(.dat (.sl (.int .i32)) s2 none),(.dat .bool s3 none)])
def qEy (_n:Nat) (s0:LU):OA :=
 bif ((qie s0)&&true) then
 bif (((z11 s0).2) != (0:Int)) then
 qlD ([]:LI) false
 else
 both (
 both (
 bif ((qlm ((z11 s0).1))&&true) then
 bif ((qqS ((z11 s0).1))&&true) then
 bif ((qqN (z53 ((z11 s0).1)) (z54 ((z11 s0).1)))&&true) then
 qlD (z52 (z53 ((z11 s0).1)) (z54 ((z11 s0).1))) true
 else none
 else none
 else none) (
 bif ((qlm ((z11 s0).1))&&true) then
 bif ((qqS ((z11 s0).1))&&true) then
 bif ((qqN (z53 ((z11 s0).1)) (z54 ((z11 s0).1)))&&true) then
 qlD (z52 (z53 ((z11 s0).1)) (z54 ((z11 s0).1))) true
 else none
 else none
 else none)) (
 bif ((qlm ((z11 s0).1))&&true) then
 bif ((qqS ((z11 s0).1))&&true) then
 bif ((qqN (z53 ((z11 s0).1)) (z54 ((z11 s0).1)))&&true) then
 qlD (z52 (z53 ((z11 s0).1)) (z54 ((z11 s0).1))) true
 else none
 else none
 else none)
 else none
def qfO (s0:Bool):OA:=some (.dat .bool s0 none)
def qJt (_n:Nat):OA :=
 bif ((quX ([(61:UInt8),(63:UInt8),(117:UInt8),(116:UInt8),(102:UInt8),(45:UInt8),(56:UInt8),(63:UInt8),(81:UInt8),(63:UInt8),(61:UInt8),(67:UInt8),(51:UInt8),(61:UInt8),(65:UInt8),(57:UInt8),(63:UInt8),(61:UInt8)]:LU))&&true) then
 bif ((qDj (2:Int) (1:Int) ([(233:UInt8)]:LU))&&true) then
 bif (((length ((z19 ([(61:UInt8),(63:UInt8),(117:UInt8),(116:UInt8),(102:UInt8),(45:UInt8),(56:UInt8),(63:UInt8),(81:UInt8),(63:UInt8),(61:UInt8),(67:UInt8),(51:UInt8),(61:UInt8),(65:UInt8),(57:UInt8),(63:UInt8),(61:UInt8)]:LU)).1):Nat):Int)==(1:Int)) then
 bif ((decide ((0:Int)≤(0:Int)))&&(decide ((0:Int) < (length ((z19 ([(61:UInt8),(63:UInt8),(117:UInt8),(116:UInt8),(102:UInt8),(45:UInt8),(56:UInt8),(63:UInt8),(81:UInt8),(63:UInt8),(61:UInt8),(67:UInt8),(51:UInt8),(61:UInt8),(65:UInt8),(57:UInt8),(63:UInt8),(61:UInt8)]:LU)).1):Nat)))) then
 bif ((getD ((z19 ([(61:UInt8),(63:UInt8),(117:UInt8),(116:UInt8),(102:UInt8),(45:UInt8),(56:UInt8),(63:UInt8),(81:UInt8),(63:UInt8),(61:UInt8),(67:UInt8),(51:UInt8),(61:UInt8),(65:UInt8),(57:UInt8),(63:UInt8),(61:UInt8)]:LU)).1) (toNat (0:Int)) (0:Int))==(233:Int)) then
 bif ((z19 ([(61:UInt8),(63:UInt8),(117:UInt8),(116:UInt8),(102:UInt8),(45:UInt8),(56:UInt8),(63:UInt8),(81:UInt8),(63:UInt8),(61:UInt8),(67:UInt8),(51:UInt8),(61:UInt8),(65:UInt8),(57:UInt8),(63:UInt8),(61:UInt8)]:LU)).2) then
 bif (((z15 (2:Int) (1:Int) ([(233:UInt8)]:LU)).1)==([61,63,105,115,111,45,56,56,53,57,45,49,63,66,63,54,81,61,61,63,61]:LU)) then
 bif (((z15 (2:Int) (1:Int) ([(233:UInt8)]:LU)).2)==(0:Int)) then
 bif ((z17 (5:Int))==(12:Int)) then
 bif ((qFv ([(61:UInt8),(63:UInt8),(97:UInt8),(63:UInt8),(99:UInt8),(63:UInt8),(98:UInt8),(63:UInt8),(61:UInt8)]:LU))&&true) then
 qfO (!(z14 ([(61:UInt8),(63:UInt8),(97:UInt8),(63:UInt8),(99:UInt8),(63:UInt8),(98:UInt8),(63:UInt8),(61:UInt8)]:LU)))
 else none
 else
 qfO false
 else
 qfO false
 else
 qfO false
 else
 qfO false
 else
 qfO false
 else none
 else
 qfO false
 else none
 else none
def qCa (s2:List LU):OA:=some (.dat (.sl (.sl .byte)) s2 none)
def qfs (k0:List LU→OA) (next:LU→List LU→Int→OA) (_n:Nat) (s0:LU) (out3:List LU) (i4:Int):OA :=
 bif (decide (i4 < ((length s0:Nat):Int))) then
 bif ((decide ((0:Int)≤i4))&&(decide (i4 < (length s0:Nat)))) then
 bif ((getD s0 (toNat i4) (0:UInt8))==(63:UInt8)) then
 bif (decide (length out3+length ([([]:LU)]:List LU)≤room)) then
 next s0 (out3++([([]:LU)]:List LU)) (wrap .i64 (i4+(1:Int)))
 else none
 else
 bif ((decide ((0:Int)≤(wrap .i64 (((length out3:Nat):Int) - (1:Int)))))&&(decide ((wrap .i64 (((length out3:Nat):Int) - (1:Int))) < (length out3:Nat)))) then
 bif ((decide ((0:Int)≤i4))&&(decide (i4 < (length s0:Nat)))) then
 bif (decide (length (getD out3 (toNat (wrap .i64 (((length out3:Nat):Int) - (1:Int)))) ([]:LU))+length ([(getD s0 (toNat i4) (0:UInt8))]:LU)≤room)) then
 bif ((decide ((0:Int)≤(wrap .i64 (((length out3:Nat):Int) - (1:Int)))))&&(decide ((wrap .i64 (((length out3:Nat):Int) - (1:Int))) < (length out3:Nat)))) then
 bif (((toNat (wrap .i64 (((length out3:Nat):Int) - (1:Int))))==(toNat (wrap .i64 (((length out3:Nat):Int) - (1:Int)))))&&true) then
 next s0 (set out3 (toNat (wrap .i64 (((length out3:Nat):Int) - (1:Int)))) ((getD out3 (toNat (wrap .i64 (((length out3:Nat):Int) - (1:Int)))) ([]:LU))++([(getD s0 (toNat i4) (0:UInt8))]:LU))) (wrap .i64 (i4+(1:Int)))
 else none
 else none
 else none
 else none
 else none
 else none
 else
 k0 out3
def qkf (k0:List LU→OA):Nat→LU→List LU→Int→OA
 | 0=>fun _ _ _=>none
 | n+1=>qfs k0 (qkf k0 n) n
def qhC (_n:Nat) (out3:List LU):OA :=
 qCa out3
def qAu (n:Nat) (s0:LU):OA :=
 qkf (qhC n) n s0 ([([]:LU)]:List LU) (0:Int)
def qpr (s2:UInt8):OA:=some (.dat .byte s2 none)
def qEz (_n:Nat) (c0:UInt8):OA :=
 bif (decide ((65:UInt8)≤c0)) then
 bif (decide (c0≤(90:UInt8))) then
 qpr (c0+(32:UInt8))
 else
 qpr c0
 else
 qpr c0
def qps (s2:Int):OA:=some (.dat (.int .i64) s2 none)
def qEA (_n:Nat) (c0:UInt8):OA :=
 bif ((z81 c0)==(98:UInt8)) then
 qps (1:Int)
 else
 bif ((z81 c0)==(113:UInt8)) then
 qps (2:Int)
 else
 qps (0:Int)
def qft (s4:Bool):OA:=some (.dat .bool s4 none)
def qcP (ret:Bool→OA) (k0:OA) (next:LU→UInt8→Int→OA) (_n:Nat) (s0:LU) (c1:UInt8) (i5:Int):OA :=
 bif (decide (i5 < ((length s0:Nat):Int))) then
 bif ((decide ((0:Int)≤i5))&&(decide (i5 < (length s0:Nat)))) then
 bif ((getD s0 (toNat i5) (0:UInt8))==c1) then
 ret true
 else
 next s0 c1 (wrap .i64 (i5+(1:Int)))
 else none
 else
 k0
def qew (ret:Bool→OA) (k0:OA):Nat→LU→UInt8→Int→OA
 | 0=>fun _ _ _=>none
 | n+1=>qcP ret k0 (qew ret k0 n) n
def qex (_n:Nat):OA :=
 qft false
def qlE (n:Nat) (s0:LU) (c1:UInt8):OA :=
 qew qft (qex n) n s0 c1 (0:Int)
def qCb (s4:Bool):OA:=some (.dat .bool s4 none)
def qJu (_n:Nat) (c0:UInt8) (kinds1:Int):OA :=
 qCb ((bits .and .i64 (z128 c0) kinds1) != (0:Int))
def qCc (s4:Int):OA:=some (.dat (.int .i64) s4 none)
def qfu (k0:Int→OA) (next:LU→Int→Int→Int→OA) (_n:Nat) (s0:LU) (kinds1:Int) (n5:Int) (i6:Int):OA :=
 bif (decide (i6 < ((length s0:Nat):Int))) then
 bif ((decide ((0:Int)≤i6))&&(decide (i6 < (length s0:Nat)))) then
 bif (z82 (getD s0 (toNat i6) (0:UInt8)) kinds1) then
 next s0 kinds1 (wrap .i64 (n5+(1:Int))) (wrap .i64 (i6+(1:Int)))
 else
 next s0 kinds1 n5 (wrap .i64 (i6+(1:Int)))
 else none
 else
 k0 n5
def qkg (k0:Int→OA):Nat→LU→Int→Int→Int→OA
 | 0=>fun _ _ _ _=>none
 | n+1=>qfu k0 (qkg k0 n) n
def qhD (_n:Nat) (n5:Int):OA :=
 qCc n5
def qAv (n:Nat) (s0:LU) (kinds1:Int):OA :=
 qkg (qhD n) n s0 kinds1 (0:Int) (0:Int)
def qbf (s2:LU×(Int×(LU×Unit))) (s3:Int):OA:=some (.tup [(.dat (.pair (.sl .byte) (.pair (.int .i64) (.pair (.sl .byte) .unit))) s2 none),(.dat (.int .i64) s3 none)])
def qEB (_n:Nat) (s0:LU):OA :=
 bif ((qBo s0)&&true) then
 bif (((length (z41 s0):Nat):Int) != (5:Int)) then
 qbf (([]:LU),((0:Int),(([]:LU),()))) (3:Int)
 else
 bif ((decide ((0:Int)≤(0:Int)))&&(decide ((0:Int) < (length (z41 s0):Nat)))) then
 bif ((getD (z41 s0) (toNat (0:Int)) ([]:LU)) != ([61]:LU)) then
 qbf (([]:LU),((0:Int),(([]:LU),()))) (3:Int)
 else
 bif ((decide ((0:Int)≤(4:Int)))&&(decide ((4:Int) < (length (z41 s0):Nat)))) then
 bif ((getD (z41 s0) (toNat (4:Int)) ([]:LU)) != ([61]:LU)) then
 qbf (([]:LU),((0:Int),(([]:LU),()))) (3:Int)
 else
 bif ((decide ((0:Int)≤(2:Int)))&&(decide ((2:Int) < (length (z41 s0):Nat)))) then
 bif (((length (getD (z41 s0) (toNat (2:Int)) ([]:LU)):Nat):Int) != (1:Int)) then
 qbf (([]:LU),((0:Int),(([]:LU),()))) (3:Int)
 else
 bif ((decide ((0:Int)≤(2:Int)))&&(decide ((2:Int) < (length (z41 s0):Nat)))) then
 bif ((decide ((0:Int)≤(0:Int)))&&(decide ((0:Int) < (length (getD (z41 s0) (toNat (2:Int)) ([]:LU)):Nat)))) then
 bif ((z42 (getD (getD (z41 s0) (toNat (2:Int)) ([]:LU)) (toNat (0:Int)) (0:UInt8)))==(0:Int)) then
 qbf (([]:LU),((0:Int),(([]:LU),()))) (3:Int)
 else
 bif ((decide ((0:Int)≤(1:Int)))&&(decide ((1:Int) < (length (z41 s0):Nat)))) then
 bif (((length (getD (z41 s0) (toNat (1:Int)) ([]:LU)):Nat):Int)==(0:Int)) then
 qbf (([]:LU),((0:Int),(([]:LU),()))) (3:Int)
 else
 bif ((decide ((0:Int)≤(1:Int)))&&(decide ((1:Int) < (length (z41 s0):Nat)))) then
 bif ((decide ((0:Int)≤(1:Int)))&&(decide ((1:Int) < (length (z41 s0):Nat)))) then
 bif ((qrj (getD (z41 s0) (toNat (1:Int)) ([]:LU)) (64:Int))&&true) then
 bif ((z43 (getD (z41 s0) (toNat (1:Int)) ([]:LU)) (64:Int)) != ((length (getD (z41 s0) (toNat (1:Int)) ([]:LU)):Nat):Int)) then
 qbf (([]:LU),((0:Int),(([]:LU),()))) (3:Int)
 else
 bif ((decide ((0:Int)≤(3:Int)))&&(decide ((3:Int) < (length (z41 s0):Nat)))) then
 bif (((length (getD (z41 s0) (toNat (3:Int)) ([]:LU)):Nat):Int)==(0:Int)) then
 qbf (([]:LU),((0:Int),(([]:LU),()))) (3:Int)
 else
 bif ((decide ((0:Int)≤(3:Int)))&&(decide ((3:Int) < (length (z41 s0):Nat)))) then
 bif ((decide ((0:Int)≤(3:Int)))&&(decide ((3:Int) < (length (z41 s0):Nat)))) then
 bif ((qrj (getD (z41 s0) (toNat (3:Int)) ([]:LU)) (4:Int))&&true) then
 bif ((z43 (getD (z41 s0) (toNat (3:Int)) ([]:LU)) (4:Int)) != ((length (getD (z41 s0) (toNat (3:Int)) ([]:LU)):Nat):Int)) then
 qbf (([]:LU),((0:Int),(([]:LU),()))) (3:Int)
 else
 bif (decide ((75:Int) < ((length s0:Nat):Int))) then
 qbf (([]:LU),((0:Int),(([]:LU),()))) (12:Int)
 else
 bif ((decide ((0:Int)≤(1:Int)))&&(decide ((1:Int) < (length (z41 s0):Nat)))) then
 bif ((decide ((0:Int)≤(2:Int)))&&(decide ((2:Int) < (length (z41 s0):Nat)))) then
 bif ((decide ((0:Int)≤(0:Int)))&&(decide ((0:Int) < (length (getD (z41 s0) (toNat (2:Int)) ([]:LU)):Nat)))) then
 bif ((decide ((0:Int)≤(3:Int)))&&(decide ((3:Int) < (length (z41 s0):Nat)))) then
 qbf ((getD (z41 s0) (toNat (1:Int)) ([]:LU)),((z42 (getD (getD (z41 s0) (toNat (2:Int)) ([]:LU)) (toNat (0:Int)) (0:UInt8))),((getD (z41 s0) (toNat (3:Int)) ([]:LU)),()))) (0:Int)
 else none
 else none
 else none
 else none
 else none
 else none
 else none
 else none
 else none
 else none
 else none
 else none
 else none
 else none
 else none
 else none
 else none
 else none
def qhE (s2:List LU):OA:=some (.dat (.sl .str) s2 (some (2,9)))
def qEC (_n:Nat) (n0:Int):OA :=
 bif (n0==(1:Int)) then
 qhE ([([117,115,45,97,115,99,105,105]:LU),([97,115,99,105,105]:LU),([97,110,115,105,95,120,51,46,52,45,49,57,54,56]:LU),([105,115,111,54,52,54,45,117,115]:LU)]:List LU)
 else
 bif (n0==(2:Int)) then
 qhE ([([105,115,111,45,56,56,53,57,45,49]:LU),([105,115,111,95,56,56,53,57,45,49]:LU),([108,97,116,105,110,49]:LU),([108,49]:LU)]:List LU)
 else
 bif (n0==(3:Int)) then
 qhE ([([105,115,111,45,56,56,53,57,45,49,53]:LU),([105,115,111,95,56,56,53,57,45,49,53]:LU),([108,97,116,105,110,45,57]:LU)]:List LU)
 else
 bif (n0==(4:Int)) then
 qhE ([([119,105,110,100,111,119,115,45,49,50,53,50]:LU),([99,112,49,50,53,50]:LU)]:List LU)
 else
 bif (n0==(5:Int)) then
 qhE ([([117,116,102,45,56]:LU),([117,116,102,56]:LU)]:List LU)
 else
 qhE ([]:List LU)
def qww (s2:LU):OA:=some (.dat (.sl .byte) s2 (some (2,5)))
def qcQ (k0:LU→OA) (next:LU→LU→Int→OA) (_n:Nat) (s0:LU) (out3:LU) (i4:Int):OA :=
 bif (decide (i4 < ((length s0:Nat):Int))) then
 bif ((decide ((0:Int)≤i4))&&(decide (i4 < (length s0:Nat)))) then
 bif (decide (length out3+length ([(z81 (getD s0 (toNat i4) (0:UInt8)))]:LU)≤room)) then
 next s0 (out3++([(z81 (getD s0 (toNat i4) (0:UInt8)))]:LU)) (wrap .i64 (i4+(1:Int)))
 else none
 else none
 else
 k0 out3
def qhF (k0:LU→OA):Nat→LU→LU→Int→OA
 | 0=>fun _ _ _=>none
 | n+1=>qcQ k0 (qhF k0 n) n
def qcR (_n:Nat) (out3:LU):OA :=
 qww out3
def qpt (n:Nat) (s0:LU):OA :=
 qhF (qcR n) n s0 ([]:LU) (0:Int)
def qwx (s2:LU):OA:=some (.dat (.sl .byte) s2 none)
def qcS (k0:LU→Int→Int→OA) (next:LU→Int→Int→OA) (_n:Nat) (s0:LU) (a3:Int) (b4:Int):OA :=
 bif (decide (a3 < b4)) then
 bif ((decide ((0:Int)≤a3))&&(decide (a3 < (length s0:Nat)))) then
 bif (z82 (getD s0 (toNat a3) (0:UInt8)) (2:Int)) then
 next s0 (wrap .i64 (a3+(1:Int))) b4
 else
 k0 s0 a3 b4
 else none
 else
 k0 s0 a3 b4
def qey (k0:LU→Int→Int→OA):Nat→LU→Int→Int→OA
 | 0=>fun _ _ _=>none
 | n+1=>qcS k0 (qey k0 n) n
def qcT (k2:LU→Int→Int→OA) (next:LU→Int→Int→OA) (_n:Nat) (s0:LU) (a3:Int) (b4:Int):OA :=
 bif (decide (a3 < b4)) then
 bif ((decide ((0:Int)≤(wrap .i64 (b4 - (1:Int)))))&&(decide ((wrap .i64 (b4 - (1:Int))) < (length s0:Nat)))) then
 bif (z82 (getD s0 (toNat (wrap .i64 (b4 - (1:Int)))) (0:UInt8)) (2:Int)) then
 next s0 a3 (wrap .i64 (b4 - (1:Int)))
 else
 k2 s0 a3 b4
 else none
 else
 k2 s0 a3 b4
def qez (k2:LU→Int→Int→OA):Nat→LU→Int→Int→OA
 | 0=>fun _ _ _=>none
 | n+1=>qcT k2 (qez k2 n) n
def qcU (_n:Nat) (s0:LU) (a3:Int) (b4:Int):OA :=
 bif (((decide ((0:Int)≤a3))&&(decide (a3≤b4)))&&(decide (b4≤((length s0:Nat):Int)))) then
 qwx (drop (toNat a3) (take (toNat b4) s0))
 else none
def qcb (n:Nat) (s0:LU) (a3:Int) (b4:Int):OA :=
 qez (qcU n) n s0 a3 b4
def qpu (n:Nat) (s0:LU):OA :=
 qey (qcb n) n s0 (0:Int) ((length s0:Nat):Int)
def qwy (s2:LU):OA:=some (.dat (.sl .byte) s2 none)
def qcV (k0:LU→Int→OA) (next:LU→Int→Int→OA) (_n:Nat) (s0:LU) (end3:Int) (i4:Int):OA :=
 bif (decide ((0:Int)≤i4)) then
 bif ((decide ((0:Int)≤i4))&&(decide (i4 < (length s0:Nat)))) then
 bif ((getD s0 (toNat i4) (0:UInt8))==(42:UInt8)) then
 next s0 i4 (wrap .i64 (i4 - (1:Int)))
 else
 next s0 end3 (wrap .i64 (i4 - (1:Int)))
 else none
 else
 k0 s0 end3
def qhG (k0:LU→Int→OA):Nat→LU→Int→Int→OA
 | 0=>fun _ _ _=>none
 | n+1=>qcV k0 (qhG k0 n) n
def qcc (_n:Nat) (s0:LU) (end3:Int):OA :=
 bif (((decide ((0:Int)≤((0:Nat):Int)))&&(decide (((0:Nat):Int)≤end3)))&&(decide (end3≤((length s0:Nat):Int)))) then
 bif ((qpO (drop (toNat ((0:Nat):Int)) (take (toNat end3) s0)))&&true) then
 qwy (z147 (drop (toNat ((0:Nat):Int)) (take (toNat end3) s0)))
 else none
 else none
def qpv (n:Nat) (s0:LU):OA :=
 qhG (qcc n) n s0 ((length s0:Nat):Int) (wrap .i64 (((length s0:Nat):Int) - (1:Int)))
def qal (s2:Int) (s3:Int):OA:=some (.tup [(.dat (.int .i64) s2 none),(.dat (.int .i64) s3 none)])
def qfv (ret:Int→Int→OA) (k2:LU→Int→OA) (next:LU→Int→List LU→Int→OA) (_n:Nat) (b4:LU) (n5:Int) (l6:List LU) (i7:Int):OA :=
 bif (decide (i7 < ((length l6:Nat):Int))) then
 bif ((decide ((0:Int)≤i7))&&(decide (i7 < (length l6:Nat)))) then
 bif ((getD l6 (toNat i7) ([]:LU))==b4) then
 ret n5 (0:Int)
 else
 next b4 n5 l6 (wrap .i64 (i7+(1:Int)))
 else none
 else
 k2 b4 n5
def qnu (ret:Int→Int→OA) (k2:LU→Int→OA):Nat→LU→Int→List LU→Int→OA
 | 0=>fun _ _ _ _=>none
 | n+1=>qfv ret k2 (qnu ret k2 n) n
def qhH (_ret:Int→Int→OA) (_k0:OA) (next:LU→Int→OA) (_n:Nat) (b4:LU) (n5:Int):OA :=
 next b4 (wrap .i64 (n5+(1:Int)))
def qhI (ret:Int→Int→OA) (k0:OA) (next:LU→Int→OA) (n:Nat) (b4:LU) (n5:Int):OA :=
 bif (decide (n5≤(5:Int))) then
 qnu ret (qhH ret k0 next n) n b4 n5 (z92 n5) (0:Int)
 else
 k0
def qhJ (ret:Int→Int→OA) (k0:OA):Nat→LU→Int→OA
 | 0=>fun _ _=>none
 | n+1=>qhI ret k0 (qhJ ret k0 n) n
def qcd (_n:Nat):OA :=
 qal (0:Int) (10:Int)
def qAw (n:Nat) (s0:LU):OA :=
 bif ((qoL s0)&&true) then
 bif ((qoT (z105 s0))&&true) then
 qhJ qal (qcd n) n (z104 (z105 s0)) (1:Int)
 else none
 else none
def qpw (s2:Int):OA:=some (.dat (.int .i64) s2 none)
def qED (_n:Nat) (s0:LU):OA :=
 bif ((qlS s0)&&true) then
 bif (((z12 s0).2) != (0:Int)) then
 qpw (0:Int)
 else
 bif ((qqQ ((z12 s0).1).1)&&true) then
 bif (((z57 ((z12 s0).1).1).2) != (0:Int)) then
 qpw (2:Int)
 else
 qpw ((z57 ((z12 s0).1).1).1)
 else none
 else none
def qS (s2:Int):OA:=some (.dat (.int .i64) s2 none)
def qwz (_n:Nat) (c0:UInt8):OA :=
 bif (decide (c0 < (128:UInt8))) then
 qS (1:Int)
 else
 bif (decide ((194:UInt8)≤c0)) then
 bif (decide (c0≤(223:UInt8))) then
 qS (2:Int)
 else
 bif (decide ((224:UInt8)≤c0)) then
 bif (decide (c0≤(239:UInt8))) then
 qS (3:Int)
 else
 bif (decide ((240:UInt8)≤c0)) then
 bif (decide (c0≤(244:UInt8))) then
 qS (4:Int)
 else
 qS (0:Int)
 else
 qS (0:Int)
 else
 bif (decide ((240:UInt8)≤c0)) then
 bif (decide (c0≤(244:UInt8))) then
 qS (4:Int)
 else
 qS (0:Int)
 else
 qS (0:Int)
 else
 bif (decide ((224:UInt8)≤c0)) then
 bif (decide (c0≤(239:UInt8))) then
 qS (3:Int)
 else
 bif (decide ((240:UInt8)≤c0)) then
 bif (decide (c0≤(244:UInt8))) then
 qS (4:Int)
 else
 qS (0:Int)
 else
 qS (0:Int)
 else
 bif (decide ((240:UInt8)≤c0)) then
 bif (decide (c0≤(244:UInt8))) then
 qS (4:Int)
 else
 qS (0:Int)
 else
 qS (0:Int)
def qfw (s2:UInt8) (s3:UInt8):OA:=some (.tup [(.dat .byte s2 none),(.dat .byte s3 none)])
def qwA (_n:Nat) (c0:UInt8):OA :=
 bif (c0==(224:UInt8)) then
 qfw (160:UInt8) (191:UInt8)
 else
 bif (c0==(237:UInt8)) then
 qfw (128:UInt8) (159:UInt8)
 else
 bif (c0==(240:UInt8)) then
 qfw (144:UInt8) (191:UInt8)
 else
 bif (c0==(244:UInt8)) then
 qfw (128:UInt8) (143:UInt8)
 else
 qfw (128:UInt8) (191:UInt8)
def qbE (s2:Int):OA:=some (.dat (.int .i64) s2 none)
def qcW (ret:Int→OA) (k0:Int→OA) (next:LU→Int→OA) (_n:Nat) (s0:LU) (n3:Int):OA :=
 bif ((decide ((0:Int)≤(0:Int)))&&(decide ((0:Int) < (length s0:Nat)))) then
 bif (decide (n3 < (z153 (getD s0 (toNat (0:Int)) (0:UInt8))))) then
 bif (decide (n3 < ((length s0:Nat):Int))) then
 bif (n3==(1:Int)) then
 bif ((decide ((0:Int)≤(0:Int)))&&(decide ((0:Int) < (length s0:Nat)))) then
 bif ((decide ((0:Int)≤n3))&&(decide (n3 < (length s0:Nat)))) then
 bif (decide ((getD s0 (toNat n3) (0:UInt8)) < ((z193 (getD s0 (toNat (0:Int)) (0:UInt8))).1))) then
 ret n3
 else
 bif ((decide ((0:Int)≤n3))&&(decide (n3 < (length s0:Nat)))) then
 bif (decide (((z193 (getD s0 (toNat (0:Int)) (0:UInt8))).2) < (getD s0 (toNat n3) (0:UInt8)))) then
 ret n3
 else
 next s0 (wrap .i64 (n3+(1:Int)))
 else none
 else none
 else none
 else
 bif ((decide ((0:Int)≤n3))&&(decide (n3 < (length s0:Nat)))) then
 bif (decide ((getD s0 (toNat n3) (0:UInt8)) < (128:UInt8))) then
 ret n3
 else
 bif ((decide ((0:Int)≤n3))&&(decide (n3 < (length s0:Nat)))) then
 bif (decide ((191:UInt8) < (getD s0 (toNat n3) (0:UInt8)))) then
 ret n3
 else
 next s0 (wrap .i64 (n3+(1:Int)))
 else none
 else none
 else
 k0 n3
 else
 k0 n3
 else none
def qfP (ret:Int→OA) (k0:Int→OA):Nat→LU→Int→OA
 | 0=>fun _ _=>none
 | n+1=>qcW ret k0 (qfP ret k0 n) n
def qcX (_n:Nat) (n3:Int):OA :=
 qbE n3
def qpx (n:Nat) (s0:LU):OA :=
 bif (((length s0:Nat):Int)==(0:Int)) then
 qbE (0:Int)
 else
 bif ((decide ((0:Int)≤(0:Int)))&&(decide ((0:Int) < (length s0:Nat)))) then
 bif ((z153 (getD s0 (toNat (0:Int)) (0:UInt8)))==(0:Int)) then
 qbE (0:Int)
 else
 qfP qbE (qcX n) n s0 (1:Int)
 else none
def qbF (s2:Int) (s3:Int) (s4:Int):OA:=some (.tup [(.dat (.int .i32) s2 none),(.dat (.int .i64) s3 none),(.dat (.int .i64) s4 none)])
def qcY (k0:Int→Int→OA) (next:LU→Int→Int→Int→OA) (_n:Nat) (s0:LU) (n5:Int) (c7:Int) (i8:Int):OA :=
 bif (decide (i8 < n5)) then
 bif ((decide ((0:Int)≤i8))&&(decide (i8 < (length s0:Nat)))) then
 next s0 n5 (wrap .i64 ((wrap .i64 ((wrap .i64 ((64:Int)*c7))+(wrap .i64 ((UInt8.toNat (getD s0 (toNat i8) (0:UInt8)):Nat):Int)))) - (128:Int))) (wrap .i64 (i8+(1:Int)))
 else none
 else
 k0 n5 c7
def qhK (k0:Int→Int→OA):Nat→LU→Int→Int→Int→OA
 | 0=>fun _ _ _ _=>none
 | n+1=>qcY k0 (qhK k0 n) n
def qeA (_n:Nat) (n5:Int) (c7:Int):OA :=
 qbF (wrap .i32 c7) n5 (0:Int)
def qpy (n:Nat) (s0:LU):OA :=
 bif (((length s0:Nat):Int)==(0:Int)) then
 qbF (0:Int) (0:Int) (4:Int)
 else
 bif ((qoI s0)&&true) then
 bif (decide ((0:Int) < (z152 s0))) then
 bif ((decide ((0:Int)≤(0:Int)))&&(decide ((0:Int) < (length s0:Nat)))) then
 bif ((z152 s0)==(z153 (getD s0 (toNat (0:Int)) (0:UInt8)))) then
 bif ((decide ((0:Int)≤(0:Int)))&&(decide ((0:Int) < (length s0:Nat)))) then
 bif ((decide ((0:Int)≤(z152 s0)))&&(decide ((z152 s0) < (length ([(0:Int),(0:Int),(192:Int),(224:Int),(240:Int)]:LI):Nat)))) then
 qhK (qeA n) n s0 (z152 s0) (wrap .i64 ((wrap .i64 ((UInt8.toNat (getD s0 (toNat (0:Int)) (0:UInt8)):Nat):Int)) - (getD ([(0:Int),(0:Int),(192:Int),(224:Int),(240:Int)]:LI) (toNat (z152 s0)) (0:Int)))) (1:Int)
 else none
 else none
 else
 bif ((z152 s0)==((length s0:Nat):Int)) then
 qbF (0:Int) (z152 s0) (4:Int)
 else
 qbF (0:Int) (bif (decide ((1:Int) > (z152 s0))) then (1:Int) else (z152 s0)) (3:Int)
 else none
 else
 bif ((z152 s0)==((length s0:Nat):Int)) then
 qbF (0:Int) (z152 s0) (4:Int)
 else
 qbF (0:Int) (bif (decide ((1:Int) > (z152 s0))) then (1:Int) else (z152 s0)) (3:Int)
 else none
def qlF (s2:LI) (s3:Int) (s4:Int):OA:=some (.tup [(.dat (.sl (.int .i32)) s2 none),(.dat (.int .i64) s3 none),(.dat (.int .i64) s4 none)])
def qkh (k0:LI→Int→Int→OA) (next:LU→LI→Int→Int→Int→OA) (_n:Nat) (s0:LU) (out5:LI) (broken6:Int) (first7:Int) (at8:Int):OA :=
 bif (decide (at8 < ((length s0:Nat):Int))) then
 bif (((decide ((0:Int)≤at8))&&(decide (at8≤((length s0:Nat):Int))))&&(decide (((length s0:Nat):Int)≤((length s0:Nat):Int)))) then
 bif ((qoJ (drop (toNat at8) (take (toNat ((length s0:Nat):Int)) s0)))&&true) then
 bif (((z111 (drop (toNat at8) (take (toNat ((length s0:Nat):Int)) s0))).2.2) != (0:Int)) then
 bif (first7==(0:Int)) then
 bif (decide (length out5+length ([(65533:Int)]:LI)≤room)) then
 next s0 (out5++([(65533:Int)]:LI)) (wrap .i64 (broken6+(1:Int))) ((z111 (drop (toNat at8) (take (toNat ((length s0:Nat):Int)) s0))).2.2) (wrap .i64 (at8+(bif (decide ((1:Int) > ((z111 (drop (toNat at8) (take (toNat ((length s0:Nat):Int)) s0))).2.1))) then (1:Int) else ((z111 (drop (toNat at8) (take (toNat ((length s0:Nat):Int)) s0))).2.1))))
 else none
 else
 bif (decide (length out5+length ([(65533:Int)]:LI)≤room)) then
 next s0 (out5++([(65533:Int)]:LI)) (wrap .i64 (broken6+(1:Int))) first7 (wrap .i64 (at8+(bif (decide ((1:Int) > ((z111 (drop (toNat at8) (take (toNat ((length s0:Nat):Int)) s0))).2.1))) then (1:Int) else ((z111 (drop (toNat at8) (take (toNat ((length s0:Nat):Int)) s0))).2.1))))
 else none
 else
 bif (decide (length out5+length ([((z111 (drop (toNat at8) (take (toNat ((length s0:Nat):Int)) s0))).1)]:LI)≤room)) then
 next s0 (out5++([((z111 (drop (toNat at8) (take (toNat ((length s0:Nat):Int)) s0))).1)]:LI)) broken6 first7 (wrap .i64 (at8+(bif (decide ((1:Int) > ((z111 (drop (toNat at8) (take (toNat ((length s0:Nat):Int)) s0))).2.1))) then (1:Int) else ((z111 (drop (toNat at8) (take (toNat ((length s0:Nat):Int)) s0))).2.1))))
 else none
 else none
 else none
 else
 k0 out5 broken6 first7
def qlG (k0:LI→Int→Int→OA):Nat→LU→LI→Int→Int→Int→OA
 | 0=>fun _ _ _ _ _=>none
 | n+1=>qkh k0 (qlG k0 n) n
def qfx (_n:Nat) (out5:LI) (broken6:Int) (first7:Int):OA :=
 qlF out5 broken6 first7
def qEE (n:Nat) (s0:LU):OA :=
 qlG (qfx n) n s0 ([]:LI) (0:Int) (0:Int) (0:Int)
def qds (s2:Int):OA:=some (.dat (.int .i32) s2 none)
def qEF (_n:Nat) (x0:UInt8):OA :=
 bif (x0==(164:UInt8)) then
 qds (8364:Int)
 else
 bif (x0==(166:UInt8)) then
 qds (352:Int)
 else
 bif (x0==(168:UInt8)) then
 qds (353:Int)
 else
 bif (x0==(180:UInt8)) then
 qds (381:Int)
 else
 bif (x0==(184:UInt8)) then
 qds (382:Int)
 else
 bif (x0==(188:UInt8)) then
 qds (338:Int)
 else
 bif (x0==(189:UInt8)) then
 qds (339:Int)
 else
 bif (x0==(190:UInt8)) then
 qds (376:Int)
 else
 qds (wrap .i32 ((UInt8.toNat x0:Nat):Int))
def qpz (s2:Int):OA:=some (.dat (.int .i32) s2 none)
def qEG (_n:Nat) (x0:UInt8):OA :=
 bif (decide (x0 < (128:UInt8))) then
 qpz (wrap .i32 ((UInt8.toNat x0:Nat):Int))
 else
 bif (decide ((159:UInt8) < x0)) then
 qpz (wrap .i32 ((UInt8.toNat x0:Nat):Int))
 else
 bif ((decide ((0:Int)≤((UInt8.toNat (x0 - (128:UInt8)):Nat):Int)))&&(decide (((UInt8.toNat (x0 - (128:UInt8)):Nat):Int) < (length ([(8364:Int),(65533:Int),(8218:Int),(402:Int),(8222:Int),(8230:Int),(8224:Int),(8225:Int),(710:Int),(8240:Int),(352:Int),(8249:Int),(338:Int),(65533:Int),(381:Int),(65533:Int),(65533:Int),(8216:Int),(8217:Int),(8220:Int),(8221:Int),(8226:Int),(8211:Int),(8212:Int),(732:Int),(8482:Int),(353:Int),(8250:Int),(339:Int),(65533:Int),(382:Int),(376:Int)]:LI):Nat)))) then
 qpz (getD ([(8364:Int),(65533:Int),(8218:Int),(402:Int),(8222:Int),(8230:Int),(8224:Int),(8225:Int),(710:Int),(8240:Int),(352:Int),(8249:Int),(338:Int),(65533:Int),(381:Int),(65533:Int),(65533:Int),(8216:Int),(8217:Int),(8220:Int),(8221:Int),(8226:Int),(8211:Int),(8212:Int),(732:Int),(8482:Int),(353:Int),(8250:Int),(339:Int),(65533:Int),(382:Int),(376:Int)]:LI) (toNat ((UInt8.toNat (x0 - (128:UInt8)):Nat):Int)) (0:Int))
 else none
def qlH (s4:LI):OA:=some (.dat (.sl (.int .i32)) s4 none)
def qfy (k0:LI→OA) (next:Int→LU→LI→Int→OA) (_n:Nat) (charset0:Int) (s1:LU) (out8:LI) (i9:Int):OA :=
 bif (decide (i9 < ((length s1:Nat):Int))) then
 bif (charset0==(1:Int)) then
 bif ((decide ((0:Int)≤i9))&&(decide (i9 < (length s1:Nat)))) then
 bif (decide ((127:UInt8) < (getD s1 (toNat i9) (0:UInt8)))) then
 bif (decide (length out8+length ([(65533:Int)]:LI)≤room)) then
 next charset0 s1 (out8++([(65533:Int)]:LI)) (wrap .i64 (i9+(1:Int)))
 else none
 else
 bif (charset0==(3:Int)) then
 bif ((decide ((0:Int)≤i9))&&(decide (i9 < (length s1:Nat)))) then
 bif (decide (length out8+length ([(z64 (getD s1 (toNat i9) (0:UInt8)))]:LI)≤room)) then
 next charset0 s1 (out8++([(z64 (getD s1 (toNat i9) (0:UInt8)))]:LI)) (wrap .i64 (i9+(1:Int)))
 else none
 else none
 else
 bif (charset0==(4:Int)) then
 bif ((decide ((0:Int)≤i9))&&(decide (i9 < (length s1:Nat)))) then
 bif (decide (length out8+length ([(z65 (getD s1 (toNat i9) (0:UInt8)))]:LI)≤room)) then
 next charset0 s1 (out8++([(z65 (getD s1 (toNat i9) (0:UInt8)))]:LI)) (wrap .i64 (i9+(1:Int)))
 else none
 else none
 else
 bif ((decide ((0:Int)≤i9))&&(decide (i9 < (length s1:Nat)))) then
 bif (decide (length out8+length ([(wrap .i32 ((UInt8.toNat (getD s1 (toNat i9) (0:UInt8)):Nat):Int))]:LI)≤room)) then
 next charset0 s1 (out8++([(wrap .i32 ((UInt8.toNat (getD s1 (toNat i9) (0:UInt8)):Nat):Int))]:LI)) (wrap .i64 (i9+(1:Int)))
 else none
 else none
 else none
 else
 bif (charset0==(3:Int)) then
 bif ((decide ((0:Int)≤i9))&&(decide (i9 < (length s1:Nat)))) then
 bif (decide (length out8+length ([(z64 (getD s1 (toNat i9) (0:UInt8)))]:LI)≤room)) then
 next charset0 s1 (out8++([(z64 (getD s1 (toNat i9) (0:UInt8)))]:LI)) (wrap .i64 (i9+(1:Int)))
 else none
 else none
 else
 bif (charset0==(4:Int)) then
 bif ((decide ((0:Int)≤i9))&&(decide (i9 < (length s1:Nat)))) then
 bif (decide (length out8+length ([(z65 (getD s1 (toNat i9) (0:UInt8)))]:LI)≤room)) then
 next charset0 s1 (out8++([(z65 (getD s1 (toNat i9) (0:UInt8)))]:LI)) (wrap .i64 (i9+(1:Int)))
 else none
 else none
 else
 bif ((decide ((0:Int)≤i9))&&(decide (i9 < (length s1:Nat)))) then
 bif (decide (length out8+length ([(wrap .i32 ((UInt8.toNat (getD s1 (toNat i9) (0:UInt8)):Nat):Int))]:LI)≤room)) then
 next charset0 s1 (out8++([(wrap .i32 ((UInt8.toNat (getD s1 (toNat i9) (0:UInt8)):Nat):Int))]:LI)) (wrap .i64 (i9+(1:Int)))
 else none
 else none
 else
 k0 out8
def qnv (k0:LI→OA):Nat→Int→LU→LI→Int→OA
 | 0=>fun _ _ _ _=>none
 | n+1=>qfy k0 (qnv k0 n) n
def qfz (_n:Nat) (out8:LI):OA :=
 qlH out8
def qAx (n:Nat) (charset0:Int) (s1:LU):OA :=
 bif (charset0==(5:Int)) then
 bif ((qzi s1)&&true) then
 qlH ((z63 s1).1)
 else none
 else
 qnv (qfz n) n charset0 s1 ([]:LI) (0:Int)
def qdJ (s2:UInt8):OA:=some (.dat .byte s2 none)
def qwB (_n:Nat) (n0:Int):OA :=
 bif (decide ((Int.tmod (wrap .i64 ((Int.tmod n0 (64:Int))+(64:Int))) (64:Int)) < (26:Int))) then
 qdJ (ofNat (toNat (wrap .u8 (wrap .i64 ((65:Int)+(Int.tmod (wrap .i64 ((Int.tmod n0 (64:Int))+(64:Int))) (64:Int)))))))
 else
 bif (decide ((Int.tmod (wrap .i64 ((Int.tmod n0 (64:Int))+(64:Int))) (64:Int)) < (52:Int))) then
 qdJ (ofNat (toNat (wrap .u8 (wrap .i64 ((wrap .i64 ((97:Int)+(Int.tmod (wrap .i64 ((Int.tmod n0 (64:Int))+(64:Int))) (64:Int)))) - (26:Int))))))
 else
 bif (decide ((Int.tmod (wrap .i64 ((Int.tmod n0 (64:Int))+(64:Int))) (64:Int)) < (62:Int))) then
 qdJ (ofNat (toNat (wrap .u8 (wrap .i64 ((wrap .i64 ((48:Int)+(Int.tmod (wrap .i64 ((Int.tmod n0 (64:Int))+(64:Int))) (64:Int)))) - (52:Int))))))
 else
 bif ((Int.tmod (wrap .i64 ((Int.tmod n0 (64:Int))+(64:Int))) (64:Int))==(62:Int)) then
 qdJ (43:UInt8)
 else
 qdJ (47:UInt8)
def qdK (s2:Int) (s3:Bool):OA:=some (.tup [(.dat (.int .i64) s2 none),(.dat .bool s3 none)])
def qcZ (ret:Int→Bool→OA) (k0:OA) (next:UInt8→Int→OA) (_n:Nat) (c0:UInt8) (n4:Int):OA :=
 bif (decide (n4 < (64:Int))) then
 bif ((z135 n4)==c0) then
 ret n4 true
 else
 next c0 (wrap .i64 (n4+(1:Int)))
 else
 k0
def qhL (ret:Int→Bool→OA) (k0:OA):Nat→UInt8→Int→OA
 | 0=>fun _ _=>none
 | n+1=>qcZ ret k0 (qhL ret k0 n) n
def qeB (_n:Nat):OA :=
 qdK (0:Int) false
def qpA (n:Nat) (c0:UInt8):OA :=
 qhL qdK (qeB n) n c0 (0:Int)
def qdL (s2:LU) (s3:Int):OA:=some (.tup [(.dat (.sl .byte) s2 none),(.dat (.int .i64) s3 none)])
def qda (k0:LU→Int→OA) (next:LU→LU→Int→Int→OA) (_n:Nat) (s0:LU) (out4:LU) (strange5:Int) (i6:Int):OA :=
 bif (decide (i6 < ((length s0:Nat):Int))) then
 bif ((decide ((0:Int)≤i6))&&(decide (i6 < (length s0:Nat)))) then
 bif ((getD s0 (toNat i6) (0:UInt8)) != (61:UInt8)) then
 bif ((decide ((0:Int)≤i6))&&(decide (i6 < (length s0:Nat)))) then
 bif ((z145 (getD s0 (toNat i6) (0:UInt8))).2) then
 bif ((decide ((0:Int)≤i6))&&(decide (i6 < (length s0:Nat)))) then
 bif (decide (length out4+length ([(getD s0 (toNat i6) (0:UInt8))]:LU)≤room)) then
 next s0 (out4++([(getD s0 (toNat i6) (0:UInt8))]:LU)) strange5 (wrap .i64 (i6+(1:Int)))
 else none
 else none
 else
 next s0 out4 (wrap .i64 (strange5+(1:Int))) (wrap .i64 (i6+(1:Int)))
 else none
 else
 k0 out4 strange5
 else none
 else
 k0 out4 strange5
def qhM (k0:LU→Int→OA):Nat→LU→LU→Int→Int→OA
 | 0=>fun _ _ _ _=>none
 | n+1=>qda k0 (qhM k0 n) n
def qeC (_n:Nat) (out4:LU) (strange5:Int):OA :=
 qdL out4 strange5
def qwC (n:Nat) (s0:LU):OA :=
 qhM (qeC n) n s0 ([]:LU) (0:Int) (0:Int)
def qaT (s2:LI) (s3:Bool):OA:=some (.tup [(.dat (.sl (.int .i64)) s2 none),(.dat .bool s3 none)])
def qgx (k2:LU→LI→Int→OA) (next:LU→LI→Int→Int→Int→OA) (_n:Nat) (s0:LU) (out4:LI) (i5:Int) (n6:Int) (k8:Int):OA :=
 bif (decide ((0:Int)≤k8)) then
 bif (decide ((0:Int)≤k8)) then
 bif (decide (length out4+length ([(Int.tmod (Int.fdiv n6 (2 ^ (min (toNat k8) (IntKind.bits .i64)))) (2:Int))]:LI)≤room)) then
 next s0 (out4++([(Int.tmod (Int.fdiv n6 (2 ^ (min (toNat k8) (IntKind.bits .i64)))) (2:Int))]:LI)) i5 n6 (wrap .i64 (k8 - (1:Int)))
 else none
 else none
 else
 k2 s0 out4 i5
def qdt (k2:LU→LI→Int→OA):Nat→LU→LI→Int→Int→Int→OA
 | 0=>fun _ _ _ _ _=>none
 | n+1=>qgx k2 (qdt k2 n) n
def qgy (_ret:LI→Bool→OA) (_k0:LI→OA) (next:LU→LI→Int→OA) (_n:Nat) (s0:LU) (out4:LI) (i5:Int):OA :=
 next s0 out4 (wrap .i64 (i5+(1:Int)))
def qce (ret:LI→Bool→OA) (k0:LI→OA) (next:LU→LI→Int→OA) (n:Nat) (s0:LU) (out4:LI) (i5:Int):OA :=
 bif (decide (i5 < ((length s0:Nat):Int))) then
 bif ((decide ((0:Int)≤i5))&&(decide (i5 < (length s0:Nat)))) then
 bif (!((z145 (getD s0 (toNat i5) (0:UInt8))).2)) then
 ret ([]:LI) false
 else
 qdt (qgy ret k0 next n) n s0 out4 i5 ((z145 (getD s0 (toNat i5) (0:UInt8))).1) (5:Int)
 else none
 else
 k0 out4
def qeD (ret:LI→Bool→OA) (k0:LI→OA):Nat→LU→LI→Int→OA
 | 0=>fun _ _ _=>none
 | n+1=>qce ret k0 (qeD ret k0 n) n
def qcf (_n:Nat) (out4:LI):OA :=
 qaT out4 true
def qwD (n:Nat) (s0:LU):OA :=
 qeD qaT (qcf n) n s0 ([]:LI) (0:Int)
def qwE (s2:Int):OA:=some (.dat (.int .i64) s2 none)
def qdb (k0:Int→OA) (next:LI→Int→Int→OA) (_n:Nat) (l0:LI) (n3:Int) (i4:Int):OA :=
 bif (decide (i4 < ((length l0:Nat):Int))) then
 bif ((decide ((0:Int)≤i4))&&(decide (i4 < (length l0:Nat)))) then
 next l0 (wrap .i64 ((wrap .i64 ((2:Int)*n3))+(getD l0 (toNat i4) (0:Int)))) (wrap .i64 (i4+(1:Int)))
 else none
 else
 k0 n3
def qhN (k0:Int→OA):Nat→LI→Int→Int→OA
 | 0=>fun _ _ _=>none
 | n+1=>qdb k0 (qhN k0 n) n
def qeE (_n:Nat) (n3:Int):OA :=
 qwE n3
def qpB (n:Nat) (l0:LI):OA :=
 qhN (qeE n) n l0 (0:Int) (0:Int)
def qnw (s2:LU) (s3:Bool):OA:=some (.tup [(.dat (.sl .byte) s2 none),(.dat .bool s3 none)])
def qdc (k0:LI→LU→Int→OA) (next:LI→LU→Int→OA) (_n:Nat) (l0:LI) (out4:LU) (i5:Int):OA :=
 bif (decide ((wrap .i64 (i5+(8:Int)))≤((length l0:Nat):Int))) then
 bif (((decide ((0:Int)≤i5))&&(decide (i5≤(wrap .i64 (i5+(8:Int))))))&&(decide ((wrap .i64 (i5+(8:Int)))≤((length l0:Nat):Int)))) then
 bif ((qeo (drop (toNat i5) (take (toNat (wrap .i64 (i5+(8:Int)))) l0)))&&true) then
 bif (decide (length out4+length ([(ofNat (toNat (wrap .u8 (z136 (drop (toNat i5) (take (toNat (wrap .i64 (i5+(8:Int)))) l0))))))]:LU)≤room)) then
 next l0 (out4++([(ofNat (toNat (wrap .u8 (z136 (drop (toNat i5) (take (toNat (wrap .i64 (i5+(8:Int)))) l0))))))]:LU)) (wrap .i64 (i5+(8:Int)))
 else none
 else none
 else none
 else
 k0 l0 out4 i5
def qhO (k0:LI→LU→Int→OA):Nat→LI→LU→Int→OA
 | 0=>fun _ _ _=>none
 | n+1=>qdc k0 (qhO k0 n) n
def qdd (_n:Nat) (l0:LI) (out4:LU) (i5:Int):OA :=
 bif (((decide ((0:Int)≤i5))&&(decide (i5≤((length l0:Nat):Int))))&&(decide (((length l0:Nat):Int)≤((length l0:Nat):Int)))) then
 bif ((qeo (drop (toNat i5) (take (toNat ((length l0:Nat):Int)) l0)))&&true) then
 qnw out4 ((z136 (drop (toNat i5) (take (toNat ((length l0:Nat):Int)) l0)))==(0:Int))
 else none
 else none
def qwF (n:Nat) (l0:LI):OA :=
 qhO (qdd n) n l0 ([]:LU) (0:Int)
def qCd (s2:LU) (s3:Int):OA:=some (.tup [(.dat (.sl .byte) s2 none),(.dat (.int .i64) s3 none)])
def qEH (_n:Nat) (s0:LU):OA :=
 bif ((qoP s0)&&true) then
 bif ((qip ((z100 s0).1))&&true) then
 bif ((qiq ((z101 ((z100 s0).1)).1))&&true) then
 qCd ((z102 ((z101 ((z100 s0).1)).1)).1) (Int.tmod ((length ((z101 ((z100 s0).1)).1):Nat):Int) (8:Int))
 else none
 else none
 else none
def qnx (s2:UInt8):OA:=some (.dat .byte s2 none)
def qwG (_n:Nat) (n0:Int):OA :=
 bif (decide ((Int.tmod (wrap .i64 ((Int.tmod n0 (16:Int))+(16:Int))) (16:Int)) < (10:Int))) then
 qnx (ofNat (toNat (wrap .u8 (wrap .i64 ((48:Int)+(Int.tmod (wrap .i64 ((Int.tmod n0 (16:Int))+(16:Int))) (16:Int)))))))
 else
 qnx (ofNat (toNat (wrap .u8 (wrap .i64 ((wrap .i64 ((65:Int)+(Int.tmod (wrap .i64 ((Int.tmod n0 (16:Int))+(16:Int))) (16:Int)))) - (10:Int))))))
def qhP (s2:Int) (s3:Bool):OA:=some (.tup [(.dat (.int .i64) s2 none),(.dat .bool s3 none)])
def qde (ret:Int→Bool→OA) (k0:OA) (next:UInt8→Int→OA) (_n:Nat) (c0:UInt8) (n4:Int):OA :=
 bif (decide (n4 < (16:Int))) then
 bif ((qci n4)&&true) then
 bif ((z184 n4)==c0) then
 ret n4 true
 else
 bif (decide ((10:Int)≤n4)) then
 bif ((qci n4)&&true) then
 bif (((z184 n4)+(32:UInt8))==c0) then
 ret n4 true
 else
 next c0 (wrap .i64 (n4+(1:Int)))
 else none
 else
 next c0 (wrap .i64 (n4+(1:Int)))
 else none
 else
 k0
def qeF (ret:Int→Bool→OA) (k0:OA):Nat→UInt8→Int→OA
 | 0=>fun _ _=>none
 | n+1=>qde ret k0 (qeF ret k0 n) n
def qeG (_n:Nat):OA :=
 qhP (0:Int) false
def qwH (n:Nat) (c0:UInt8):OA :=
 qeF qhP (qeG n) n c0 (0:Int)
def qdM (s6:UInt8) (s7:Bool):OA:=some (.tup [(.dat .byte s6 none),(.dat .bool s7 none)])
def qwI (_n:Nat) (s0:LU) (at1:Int) (sign2:UInt8):OA :=
 bif (decide (at1 < (0:Int))) then
 qdM (0:UInt8) false
 else
 bif (decide ((wrap .i64 (((length s0:Nat):Int) - (3:Int))) < at1)) then
 qdM (0:UInt8) false
 else
 bif ((decide ((0:Int)≤at1))&&(decide (at1 < (length s0:Nat)))) then
 bif ((getD s0 (toNat at1) (0:UInt8)) != sign2) then
 qdM (0:UInt8) false
 else
 bif ((decide ((0:Int)≤(wrap .i64 (at1+(1:Int)))))&&(decide ((wrap .i64 (at1+(1:Int))) < (length s0:Nat)))) then
 bif ((decide ((0:Int)≤(wrap .i64 (at1+(2:Int)))))&&(decide ((wrap .i64 (at1+(2:Int))) < (length s0:Nat)))) then
 bif (!((z146 (getD s0 (toNat (wrap .i64 (at1+(1:Int)))) (0:UInt8))).2)) then
 qdM (0:UInt8) false
 else
 bif (!((z146 (getD s0 (toNat (wrap .i64 (at1+(2:Int)))) (0:UInt8))).2)) then
 qdM (0:UInt8) false
 else
 qdM (ofNat (toNat (wrap .u8 (wrap .i64 ((wrap .i64 ((16:Int)*((z146 (getD s0 (toNat (wrap .i64 (at1+(1:Int)))) (0:UInt8))).1)))+((z146 (getD s0 (toNat (wrap .i64 (at1+(2:Int)))) (0:UInt8))).1)))))) true
 else none
 else none
 else none
def qlI (s2:LU) (s3:Int):OA:=some (.tup [(.dat (.sl .byte) s2 none),(.dat (.int .i64) s3 none)])
def qki (k0:LU→Int→OA) (next:LU→LU→Int→Int→OA) (_n:Nat) (s0:LU) (out4:LU) (strange5:Int) (i6:Int):OA :=
 bif (decide (i6 < ((length s0:Nat):Int))) then
 bif ((qoG s0 i6 (61:UInt8))&&true) then
 bif ((z103 s0 i6 (61:UInt8)).2) then
 bif (decide (length out4+length ([((z103 s0 i6 (61:UInt8)).1)]:LU)≤room)) then
 next s0 (out4++([((z103 s0 i6 (61:UInt8)).1)]:LU)) strange5 (wrap .i64 ((wrap .i64 (i6+(2:Int)))+(1:Int)))
 else none
 else
 bif ((decide ((0:Int)≤i6))&&(decide (i6 < (length s0:Nat)))) then
 bif ((getD s0 (toNat i6) (0:UInt8))==(95:UInt8)) then
 bif (decide (length out4+length ([(32:UInt8)]:LU)≤room)) then
 next s0 (out4++([(32:UInt8)]:LU)) strange5 (wrap .i64 (i6+(1:Int)))
 else none
 else
 bif ((decide ((0:Int)≤i6))&&(decide (i6 < (length s0:Nat)))) then
 bif ((getD s0 (toNat i6) (0:UInt8))==(61:UInt8)) then
 bif (decide (length out4+length ([(61:UInt8)]:LU)≤room)) then
 next s0 (out4++([(61:UInt8)]:LU)) (wrap .i64 (strange5+(1:Int))) (wrap .i64 (i6+(1:Int)))
 else none
 else
 bif ((decide ((0:Int)≤i6))&&(decide (i6 < (length s0:Nat)))) then
 bif (decide (length out4+length ([(getD s0 (toNat i6) (0:UInt8))]:LU)≤room)) then
 next s0 (out4++([(getD s0 (toNat i6) (0:UInt8))]:LU)) strange5 (wrap .i64 (i6+(1:Int)))
 else none
 else none
 else none
 else none
 else none
 else
 k0 out4 strange5
def qny (k0:LU→Int→OA):Nat→LU→LU→Int→Int→OA
 | 0=>fun _ _ _ _=>none
 | n+1=>qki k0 (qny k0 n) n
def qhQ (_n:Nat) (out4:LU) (strange5:Int):OA :=
 qlI out4 strange5
def qEI (n:Nat) (s0:LU):OA :=
 qny (qhQ n) n s0 ([]:LU) (0:Int) (0:Int)
def qpC (s2:LI) (s3:Bool):OA:=some (.tup [(.dat (.sl (.int .i32)) s2 none),(.dat .bool s3 none)])
def qEJ (_n:Nat) (s0:LU):OA :=
 bif ((qlS s0)&&true) then
 bif (((z12 s0).2) != (0:Int)) then
 qpC ([]:LI) false
 else
 bif (((z12 s0).1).2.1==(1:Int)) then
 bif ((qzm ((z12 s0).1).2.2.1)&&true) then
 bif ((qnd s0)&&true) then
 bif ((qqO (z23 s0) ((z55 ((z12 s0).1).2.2.1).1))&&true) then
 qpC (z26 (z23 s0) ((z55 ((z12 s0).1).2.2.1).1)) true
 else none
 else none
 else none
 else
 bif ((qqR ((z12 s0).1).2.2.1)&&true) then
 bif ((qnd s0)&&true) then
 bif ((qqO (z23 s0) ((z56 ((z12 s0).1).2.2.1).1))&&true) then
 qpC (z26 (z23 s0) ((z56 ((z12 s0).1).2.2.1).1)) true
 else none
 else none
 else none
 else none
def qiE (s4:Bool):OA:=some (.dat .bool s4 none)
def qfA (ret:Bool→OA) (k0:OA) (next:LI→LI→Int→OA) (_n:Nat) (a0:LI) (b1:LI) (i5:Int):OA :=
 bif (decide (i5 < ((length a0:Nat):Int))) then
 bif ((decide ((0:Int)≤i5))&&(decide (i5 < (length a0:Nat)))) then
 bif ((decide ((0:Int)≤i5))&&(decide (i5 < (length b1:Nat)))) then
 bif ((getD a0 (toNat i5) (0:Int)) != (getD b1 (toNat i5) (0:Int))) then
 ret false
 else
 next a0 b1 (wrap .i64 (i5+(1:Int)))
 else none
 else none
 else
 k0
def qkj (ret:Bool→OA) (k0:OA):Nat→LI→LI→Int→OA
 | 0=>fun _ _ _=>none
 | n+1=>qfA ret k0 (qkj ret k0 n) n
def qkk (_n:Nat):OA :=
 qiE true
def qAy (n:Nat) (a0:LI) (b1:LI):OA :=
 bif (((length a0:Nat):Int) != ((length b1:Nat):Int)) then
 qiE false
 else
 qkj qiE (qkk n) n a0 b1 (0:Int)
def qwJ (s2:Int):OA:=some (.dat (.int .i64) s2 none)
def qEK (_n:Nat) (s0:LU):OA :=
 bif ((qie s0)&&true) then
 bif (((z11 s0).2) != (0:Int)) then
 qwJ (0:Int)
 else
 bif ((qlm ((z11 s0).1))&&true) then
 qwJ (z53 ((z11 s0).1))
 else none
 else none
def qnz (s4:Bool):OA:=some (.dat .bool s4 none)
def qwK (_n:Nat) (s0:LU) (suffix1:LU):OA :=
 bif (decide (((length suffix1:Nat):Int)≤((length s0:Nat):Int))) then
 bif (((decide ((0:Int)≤(wrap .i64 (((length s0:Nat):Int) - ((length suffix1:Nat):Int)))))&&(decide ((wrap .i64 (((length s0:Nat):Int) - ((length suffix1:Nat):Int)))≤((length s0:Nat):Int))))&&(decide (((length s0:Nat):Int)≤((length s0:Nat):Int)))) then
 qnz (z175 (drop (toNat (wrap .i64 (((length s0:Nat):Int) - ((length suffix1:Nat):Int)))) (take (toNat ((length s0:Nat):Int)) s0)) suffix1)
 else none
 else
 qnz false
def qnA (s4:LU):OA:=some (.dat (.sl .byte) s4 none)
def qwL (_n:Nat) (s0:LU) (suffix1:LU):OA :=
 bif ((qoR s0 suffix1)&&true) then
 bif (z228 s0 suffix1) then
 bif (((decide ((0:Int)≤((0:Nat):Int)))&&(decide (((0:Nat):Int)≤(wrap .i64 (((length s0:Nat):Int) - ((length suffix1:Nat):Int))))))&&(decide ((wrap .i64 (((length s0:Nat):Int) - ((length suffix1:Nat):Int)))≤((length s0:Nat):Int)))) then
 qnA (drop (toNat ((0:Nat):Int)) (take (toNat (wrap .i64 (((length s0:Nat):Int) - ((length suffix1:Nat):Int)))) s0))
 else none
 else
 qnA s0
 else none
def qnB (s2:LU):OA:=some (.dat (.sl .byte) s2 none)
def qpD (k0:LU→OA) (next:LU→Int→OA) (_n:Nat) (s0:LU) (s3:Int):OA :=
 bif (decide (s3 < (2:Int))) then
 bif ((qhf s0 ([(61:UInt8)]:LU))&&true) then
 next (z191 s0 ([(61:UInt8)]:LU)) (wrap .i64 (s3+(1:Int)))
 else none
 else
 k0 s0
def qiF (k0:LU→OA):Nat→LU→Int→OA
 | 0=>fun _ _=>none
 | n+1=>qpD k0 (qiF k0 n) n
def qgz (_n:Nat) (s0:LU):OA :=
 qnB s0
def qpE (n:Nat) (s0:LU):OA :=
 qiF (qgz n) n s0 (0:Int)
def qaj (s2:LU) (s3:Int):OA:=some (.tup [(.dat (.sl .byte) s2 none),(.dat (.int .i64) s3 none)])
def qdf (ret:LU→Int→OA) (k0:LU→LU→Int→OA) (next:LU→LU→Int→Int→LU→Int→Int→OA) (_n:Nat) (s0:LU) (out4:LU) (held5:Int) (many6:Int) (s12:LU) (s13:Int) (s14:Int):OA :=
 bif (decide (s14 < s13)) then
 bif ((decide ((0:Int)≤s14))&&(decide (s14 < (length s12:Nat)))) then
 bif (!((z150 (getD s12 (toNat s14) (0:UInt8))).2)) then
 ret ([]:LU) (3:Int)
 else
 bif (decide ((8:Int)≤(wrap .i64 (many6+(6:Int))))) then
 bif (decide ((0:Int)≤(wrap .i64 ((wrap .i64 (many6+(6:Int))) - (8:Int))))) then
 bif (decide (length out4+length ([(ofNat (toNat (wrap .u8 (Int.fdiv (bits .or .i64 (wrap .i64 (held5*2 ^ (min (toNat (6:Int)) (IntKind.bits .i64)))) ((z150 (getD s12 (toNat s14) (0:UInt8))).1)) (2 ^ (min (toNat (wrap .i64 ((wrap .i64 (many6+(6:Int))) - (8:Int)))) (IntKind.bits .i64)))))))]:LU)≤room)) then
 bif (decide ((0:Int)≤(wrap .i64 ((wrap .i64 (many6+(6:Int))) - (8:Int))))) then
 next s0 (out4++([(ofNat (toNat (wrap .u8 (Int.fdiv (bits .or .i64 (wrap .i64 (held5*2 ^ (min (toNat (6:Int)) (IntKind.bits .i64)))) ((z150 (getD s12 (toNat s14) (0:UInt8))).1)) (2 ^ (min (toNat (wrap .i64 ((wrap .i64 (many6+(6:Int))) - (8:Int)))) (IntKind.bits .i64)))))))]:LU)) (bits .and .i64 (bits .or .i64 (wrap .i64 (held5*2 ^ (min (toNat (6:Int)) (IntKind.bits .i64)))) ((z150 (getD s12 (toNat s14) (0:UInt8))).1)) (wrap .i64 ((wrap .i64 ((1:Int)*2 ^ (min (toNat (wrap .i64 ((wrap .i64 (many6+(6:Int))) - (8:Int)))) (IntKind.bits .i64)))) - (1:Int)))) (wrap .i64 ((wrap .i64 (many6+(6:Int))) - (8:Int))) s12 s13 (wrap .i64 (s14+(1:Int)))
 else none
 else none
 else none
 else
 next s0 out4 (bits .or .i64 (wrap .i64 (held5*2 ^ (min (toNat (6:Int)) (IntKind.bits .i64)))) ((z150 (getD s12 (toNat s14) (0:UInt8))).1)) (wrap .i64 (many6+(6:Int))) s12 s13 (wrap .i64 (s14+(1:Int)))
 else none
 else
 k0 s0 out4 held5
def qdu (ret:LU→Int→OA) (k0:LU→LU→Int→OA):Nat→LU→LU→Int→Int→LU→Int→Int→OA
 | 0=>fun _ _ _ _ _ _ _=>none
 | n+1=>qdf ret k0 (qdu ret k0 n) n
def qaF (_n:Nat) (s0:LU) (out4:LU) (held5:Int):OA :=
 bif ((Int.tmod ((length s0:Nat):Int) (4:Int)) != (0:Int)) then
 qaj ([]:LU) (4:Int)
 else
 bif (held5 != (0:Int)) then
 qaj ([]:LU) (3:Int)
 else
 qaj out4 (0:Int)
def qpF (n:Nat) (s0:LU):OA :=
 bif ((qoM s0)&&true) then
 qdu qaj (qaF n) n s0 ([]:LU) (0:Int) (0:Int) (z149 s0) ((length (z149 s0):Nat):Int) (0:Int)
 else none
def qCe (s2:Bool):OA:=some (.dat .bool s2 none)
def qEL (_n:Nat) (s0:LU):OA :=
 bif ((qoN s0)&&true) then
 qCe (((z108 s0).2)==(0:Int))
 else none
def qwM (s2:Int):OA:=some (.dat (.int .i64) s2 none)
def qwN (_n:Nat) (s0:LU):OA :=
 bif ((qir s0)&&true) then
 qwM ((z144 s0).2)
 else none
def qlJ (s2:Int):OA:=some (.dat (.int .i64) s2 none)
def qEM (_n:Nat) (s0:LU):OA :=
 bif ((qri s0 (4:Int))&&true) then
 bif (!(z80 s0 (4:Int))) then
 qlJ (3:Int)
 else
 bif (decide ((0:Int)≤(z109 s0 (63:UInt8)))) then
 qlJ (3:Int)
 else
 bif ((qoQ s0)&&true) then
 bif (decide ((0:Int) < (z110 s0))) then
 qlJ (3:Int)
 else
 qlJ (0:Int)
 else none
 else none
def qiG (s2:Bool):OA:=some (.dat .bool s2 none)
def qEN (_n:Nat) (s0:LU):OA :=
 bif ((qie s0)&&true) then
 bif (((z11 s0).2) != (0:Int)) then
 qiG false
 else
 bif ((qqP ((z11 s0).1).1)&&true) then
 bif (((z11 s0).1).2.1==(1:Int)) then
 bif (((z58 ((z11 s0).1).1).2)==(0:Int)) then
 bif ((qzk ((z11 s0).1).2.2.1)&&true) then
 qiG (z59 ((z11 s0).1).2.2.1)
 else none
 else
 qiG false
 else
 bif (((z58 ((z11 s0).1).1).2)==(0:Int)) then
 bif ((qzo ((z11 s0).1).2.2.1)&&true) then
 qiG ((z60 ((z11 s0).1).2.2.1)==(0:Int))
 else none
 else
 qiG false
 else none
 else none
def qiH (s2:LU) (s3:Int):OA:=some (.tup [(.dat (.sl .byte) s2 none),(.dat (.int .i64) s3 none)])
def qfB (k0:LU→Int→OA) (next:LU→Int→Int→OA) (_n:Nat) (s0:LU) (end4:Int) (k5:Int):OA :=
 bif (decide (k5 < (2:Int))) then
 bif (decide ((0:Int) < end4)) then
 bif ((decide ((0:Int)≤(wrap .i64 (end4 - (1:Int)))))&&(decide ((wrap .i64 (end4 - (1:Int))) < (length s0:Nat)))) then
 bif ((getD s0 (toNat (wrap .i64 (end4 - (1:Int)))) (0:UInt8))==(61:UInt8)) then
 next s0 (wrap .i64 (end4 - (1:Int))) (wrap .i64 (k5+(1:Int)))
 else
 k0 s0 end4
 else none
 else
 k0 s0 end4
 else
 k0 s0 end4
def qid (k0:LU→Int→OA):Nat→LU→Int→Int→OA
 | 0=>fun _ _ _=>none
 | n+1=>qfB k0 (qid k0 n) n
def qaU (_n:Nat) (s0:LU) (end4:Int):OA :=
 bif (((decide ((0:Int)≤((0:Nat):Int)))&&(decide (((0:Nat):Int)≤end4)))&&(decide (end4≤((length s0:Nat):Int)))) then
 bif ((qip (drop (toNat ((0:Nat):Int)) (take (toNat end4) s0)))&&true) then
 bif (!((z101 (drop (toNat ((0:Nat):Int)) (take (toNat end4) s0))).2)) then
 qiH ([]:LU) (3:Int)
 else
 bif ((Int.tmod ((length s0:Nat):Int) (4:Int)) != (0:Int)) then
 qiH ([]:LU) (4:Int)
 else
 bif ((qiq ((z101 (drop (toNat ((0:Nat):Int)) (take (toNat end4) s0))).1))&&true) then
 bif (!((z102 ((z101 (drop (toNat ((0:Nat):Int)) (take (toNat end4) s0))).1)).2)) then
 qiH ([]:LU) (3:Int)
 else
 qiH ((z102 ((z101 (drop (toNat ((0:Nat):Int)) (take (toNat end4) s0))).1)).1) (0:Int)
 else none
 else none
 else none
def qEO (n:Nat) (s0:LU):OA :=
 qid (qaU n) n s0 ((length s0:Nat):Int) (0:Int)
def qfQ (s2:Int):OA:=some (.dat (.int .i64) s2 none)
def qfC (ret:Int→OA) (k0:LU→OA) (next:LU→Int→OA) (_n:Nat) (s0:LU) (i3:Int):OA :=
 bif (decide (i3 < ((length s0:Nat):Int))) then
 bif ((decide ((0:Int)≤i3))&&(decide (i3 < (length s0:Nat)))) then
 bif (!(z82 (getD s0 (toNat i3) (0:UInt8)) (4:Int))) then
 ret (3:Int)
 else
 bif ((decide ((0:Int)≤i3))&&(decide (i3 < (length s0:Nat)))) then
 bif ((getD s0 (toNat i3) (0:UInt8))==(63:UInt8)) then
 ret (3:Int)
 else
 next s0 (wrap .i64 (i3+(1:Int)))
 else none
 else none
 else
 k0 s0
def qnC (ret:Int→OA) (k0:LU→OA):Nat→LU→Int→OA
 | 0=>fun _ _=>none
 | n+1=>qfC ret k0 (qnC ret k0 n) n
def qdN (_n:Nat) (s0:LU):OA :=
 bif ((qqR s0)&&true) then
 bif (decide ((0:Int) < ((z56 s0).2))) then
 qfQ (3:Int)
 else
 qfQ (0:Int)
 else none
def qEP (n:Nat) (s0:LU):OA :=
 qnC qfQ (qdN n) n s0 (0:Int)
def qlK (s2:Bool):OA:=some (.dat .bool s2 none)
def qEQ (_n:Nat) (s0:LU):OA :=
 bif ((qlS s0)&&true) then
 bif (((z12 s0).2) != (0:Int)) then
 qlK false
 else
 bif ((qqQ ((z12 s0).1).1)&&true) then
 bif (((z57 ((z12 s0).1).1).2) != (0:Int)) then
 qlK false
 else
 bif (((z12 s0).1).2.1==(1:Int)) then
 bif ((qzj ((z12 s0).1).2.2.1)&&true) then
 qlK (((z61 ((z12 s0).1).2.2.1).2)==(0:Int))
 else none
 else
 bif ((qzp ((z12 s0).1).2.2.1)&&true) then
 qlK ((z62 ((z12 s0).1).2.2.1)==(0:Int))
 else none
 else none
 else none
def qlL (s2:Bool):OA:=some (.dat .bool s2 none)
def z5_sh (_n:Nat) (s0:LU):OA :=
 bif (decide ((500:Int) < ((length s0:Nat):Int))) then
 qlL z10
 else
 bif ((quX s0)&&true) then
 bif ((qzu s0)&&true) then
 bif ((qzv ((z19 s0).1) ((z20 s0).1))&&true) then
 bif (z21 ((z19 s0).1) ((z20 s0).1)) then
 bif (((z19 s0).2)==((z20 s0).2)) then
 bif ((qzt s0)&&true) then
 bif ((qnd s0)&&true) then
 bif ((z22 s0)==(z23 s0)) then
 bif ((qzr s0)&&true) then
 bif ((qzs s0)&&true) then
 bif ((z24 s0)==(z25 s0)) then
 bif (decide (((length ((z19 s0).1):Nat):Int)≤((length s0:Nat):Int))) then
 qlL z10
 else
 qlL false
 else
 qlL false
 else none
 else none
 else
 qlL false
 else none
 else none
 else
 qlL false
 else
 qlL false
 else none
 else none
 else none
end
end Go.Av
