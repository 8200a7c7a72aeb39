import Derived.Test.YtabdohophompiaaDoorPxM
namespace Go.Av
set_option linter.unusedSimpArgs false
set_option linter.unusedVariables false
noncomputable section
def qi (s2:Int):Option AV:=some (dc s2)
def qV:=(bits .or .i64 (bits .or .i64 (0:Int) (1:Int)) (656:Int))
def qcM:=(bits .or .i64 (bits .or .i64 (0:Int) (1:Int)) (2:Int))
def quc (_n:Nat) (c0:UInt8):Option AV :=
 bif (decide (c0 < (32:UInt8))) then bif (c0==(32:UInt8)) then qi (qcM) else bif (c0==(9:UInt8)) then qi (qcM) else bif (decide ((48:UInt8)≤c0)) then bif (decide (c0≤(57:UInt8))) then qi (bits .or .i64 (bits .or .i64 (0:Int) (1:Int)) (648:Int)) else bif (decide ((65:UInt8)≤c0)) then bif (decide (c0≤(90:UInt8))) then bif (decide (c0≤(90:UInt8))) then qi (qV) else qi (bits .or .i64 (0:Int) (1:Int)) else bif (decide ((97:UInt8)≤c0)) then bif (decide (c0≤(122:UInt8))) then qi (qV) else qi (bits .or .i64 (0:Int) (1:Int)) else qi (bits .or .i64 (0:Int) (1:Int)) else bif (decide ((97:UInt8)≤c0)) then bif (decide (c0≤(122:UInt8))) then qi (qV) else qi (bits .or .i64 (0:Int) (1:Int)) else qi (bits .or .i64 (0:Int) (1:Int)) else bif (decide ((65:UInt8)≤c0)) then bif (decide (c0≤(90:UInt8))) then bif (decide (c0≤(90:UInt8))) then qi (qV) else qi (bits .or .i64 (0:Int) (1:Int)) else bif (decide ((97:UInt8)≤c0)) then bif (decide (c0≤(122:UInt8))) then qi (qV) else qi (bits .or .i64 (0:Int) (1:Int)) else qi (bits .or .i64 (0:Int) (1:Int)) else bif (decide ((97:UInt8)≤c0)) then bif (decide (c0≤(122:UInt8))) then qi (qV) else qi (bits .or .i64 (0:Int) (1:Int)) else qi (bits .or .i64 (0:Int) (1:Int)) else bif (c0==(127:UInt8)) then bif (c0==(32:UInt8)) then qi (qcM) else bif (c0==(9:UInt8)) then qi (qcM) else bif (decide ((48:UInt8)≤c0)) then bif (decide (c0≤(57:UInt8))) then qi (bits .or .i64 (bits .or .i64 (0:Int) (1:Int)) (648:Int)) else bif (decide ((65:UInt8)≤c0)) then bif (decide (c0≤(90:UInt8))) then bif (decide (c0≤(90:UInt8))) then qi (qV) else qi (bits .or .i64 (0:Int) (1:Int)) else bif (decide ((97:UInt8)≤c0)) then bif (decide (c0≤(122:UInt8))) then qi (qV) else qi (bits .or .i64 (0:Int) (1:Int)) else qi (bits .or .i64 (0:Int) (1:Int)) else bif (decide ((97:UInt8)≤c0)) then bif (decide (c0≤(122:UInt8))) then qi (qV) else qi (bits .or .i64 (0:Int) (1:Int)) else qi (bits .or .i64 (0:Int) (1:Int)) else bif (decide ((65:UInt8)≤c0)) then bif (decide (c0≤(90:UInt8))) then bif (decide (c0≤(90:UInt8))) then qi (qV) else qi (bits .or .i64 (0:Int) (1:Int)) else bif (decide ((97:UInt8)≤c0)) then bif (decide (c0≤(122:UInt8))) then qi (qV) else qi (bits .or .i64 (0:Int) (1:Int)) else qi (bits .or .i64 (0:Int) (1:Int)) else bif (decide ((97:UInt8)≤c0)) then bif (decide (c0≤(122:UInt8))) then qi (qV) else qi (bits .or .i64 (0:Int) (1:Int)) else qi (bits .or .i64 (0:Int) (1:Int)) else bif (c0==(32:UInt8)) then qi (bits .or .i64 (0:Int) (2:Int)) else bif (c0==(9:UInt8)) then qi (bits .or .i64 (0:Int) (2:Int)) else bif (decide ((48:UInt8)≤c0)) then bif (decide (c0≤(57:UInt8))) then qi (bits .or .i64 (0:Int) (648:Int)) else bif (decide ((65:UInt8)≤c0)) then bif (decide (c0≤(90:UInt8))) then bif (decide (c0≤(90:UInt8))) then qi (bits .or .i64 (0:Int) (656:Int)) else qi (0:Int) else bif (decide ((97:UInt8)≤c0)) then bif (decide (c0≤(122:UInt8))) then qi (bits .or .i64 (0:Int) (656:Int)) else qi (0:Int) else qi (0:Int) else bif (decide ((97:UInt8)≤c0)) then bif (decide (c0≤(122:UInt8))) then qi (bits .or .i64 (0:Int) (656:Int)) else qi (0:Int) else qi (0:Int) else bif (decide ((65:UInt8)≤c0)) then bif (decide (c0≤(90:UInt8))) then bif (decide (c0≤(90:UInt8))) then qi (bits .or .i64 (0:Int) (656:Int)) else qi (0:Int) else bif (decide ((97:UInt8)≤c0)) then bif (decide (c0≤(122:UInt8))) then qi (bits .or .i64 (0:Int) (656:Int)) else qi (0:Int) else qi (0:Int) else bif (decide ((97:UInt8)≤c0)) then bif (decide (c0≤(122:UInt8))) then qi (bits .or .i64 (0:Int) (656:Int)) else qi (0:Int) else qi (0:Int)
def qrS (s4:Int):Option AV:=some (dc s4)
def qwP (_n:Nat) (s0:List UInt8) (c1:UInt8):Option AV :=
 qrS (z85 s0 c1)
def qrT (s4:Int):Option AV:=some (dc s4)
def qwQ (_n:Nat) (s0:List UInt8) (c1:UInt8):Option AV :=
 qrT (z84 s0 c1)
def qrU (s4:Bool):Option AV:=some (df s4)
def qwR (_n:Nat) (s0:List UInt8) (c1:UInt8):Option AV :=
 qrU (decide (0≤(z79 s0 c1)))
def qaE (s2:Int):Option AV:=some (dc s2)
def qaL (c0:UInt8):=(bits .or .i64 (z73 c0) (4:Int))
def qcN (c0:UInt8):=(z74 ([40,41,60,62,64,44,59,58,92,34,47,91,93,63,61]:List UInt8) c0)
def qbf (c0:UInt8):=(bits .or .i64 (qaL c0) (128:Int))
def qud (_n:Nat) (c0:UInt8):Option AV :=
 bif (decide (c0 < (33:UInt8))) then qaE (z73 c0) else bif (decide ((126:UInt8) < c0)) then qaE (z73 c0) else bif (z74 ([33,42,43,45,47]:List UInt8) c0) then bif (z74 ([43,47]:List UInt8) c0) then bif (qcN c0) then qaE (bits .or .i64 (bits .or .i64 (qbf c0) (512:Int)) (32:Int)) else bif (!(z74 ([42,39,37]:List UInt8) c0)) then qaE (bits .or .i64 (bits .or .i64 (bits .or .i64 (qbf c0) (512:Int)) (64:Int)) (256:Int)) else qaE (bits .or .i64 (bits .or .i64 (qbf c0) (512:Int)) (64:Int)) else bif (qcN c0) then qaE (bits .or .i64 (qbf c0) (32:Int)) else bif (!(z74 ([42,39,37]:List UInt8) c0)) then qaE (bits .or .i64 (bits .or .i64 (qbf c0) (64:Int)) (256:Int)) else qaE (bits .or .i64 (qbf c0) (64:Int)) else bif (z74 ([43,47]:List UInt8) c0) then bif (qcN c0) then qaE (bits .or .i64 (bits .or .i64 (qaL c0) (512:Int)) (32:Int)) else bif (!(z74 ([42,39,37]:List UInt8) c0)) then qaE (bits .or .i64 (bits .or .i64 (bits .or .i64 (qaL c0) (512:Int)) (64:Int)) (256:Int)) else qaE (bits .or .i64 (bits .or .i64 (qaL c0) (512:Int)) (64:Int)) else bif (qcN c0) then qaE (bits .or .i64 (qaL c0) (32:Int)) else bif (!(z74 ([42,39,37]:List UInt8) c0)) then qaE (bits .or .i64 (bits .or .i64 (qaL c0) (64:Int)) (256:Int)) else qaE (bits .or .i64 (qaL c0) (64:Int))
def qrV (s4:Bool):Option AV:=some (df s4)
def qwS (_n:Nat) (c0:UInt8) (kinds1:Int):Option AV :=
 qrV ((bits .and .i64 (z70 c0) kinds1) != (0:Int))
def qrW (s4:Int):Option AV:=some (dc s4)
def qdj (k0:Int→Option AV) (next:Int→Int→List UInt8→Int→Int→Option AV) (_n:Nat) (kinds1:Int) (n5:Int) (s8:List UInt8) (s9:Int) (s10:Int):Option AV :=
 bif (decide (s10 < s9)) then
 bif ((decide (0≤s10))&&(decide (s10 < s8.length))) then
 bif (z62 (s8.getD s10.toNat (0:UInt8)) kinds1) then
 next kinds1 (IntKind.wrap .i64 (n5+1)) s8 s9 (IntKind.wrap .i64 (s10+1))
 else
 next kinds1 n5 s8 s9 (IntKind.wrap .i64 (s10+1))
 else none
 else
 k0 n5
def qgN (k0:Int→Option AV):Nat→Int→Int→List UInt8→Int→Int→Option AV
 | 0=>fun _ _ _ _ _=>none
 | n+1=>qdj k0 (qgN k0 n) n
def qff (_n:Nat) (n5:Int):Option AV :=
 qrW n5
def qro (n:Nat) (s0:List UInt8) (kinds1:Int):Option AV :=
 qgN (qff n) n kinds1 (0:Int) s0 (s0.length:Int) (0:Int)
def qod (s4:Bool):Option AV:=some (df s4)
def que (_n:Nat) (s0:List UInt8) (kinds1:Int):Option AV :=
 bif ((qpG s0 kinds1)&&true) then
 qod ((z48 s0 kinds1)==(s0.length:Int))
 else none
def qkw (s2:Bool):Option AV:=some (df s2)
def quf (_n:Nat) (name0:List UInt8):Option AV :=
 bif (decide ((0:Int) < (name0.length:Int))) then
 bif (decide ((name0.length:Int)≤(30:Int))) then
 bif ((qlf name0 (256:Int))&&true) then
 qkw (z29 name0 (256:Int))
 else none
 else
 qkw false
 else
 qkw false
def qoe (s2:Bool):Option AV:=some (df s2)
def qug (_n:Nat) (c0:Int):Option AV :=
 bif (decide (c0 < (32:Int))) then
 qoe true
 else
 qoe (decide ((126:Int) < c0))
def qof (s2:Bool):Option AV:=some (df s2)
def quh (_n:Nat) (c0:Int):Option AV :=
 bif (decide ((55296:Int)≤c0)) then
 qof (decide (c0≤(57343:Int)))
 else
 qof false
def qog (s2:Bool):Option AV:=some (df s2)
def qui (_n:Nat) (c0:Int):Option AV :=
 bif (decide ((IntKind.wrap .u32 c0)≤(1114111:Int))) then
 qog (!(z65 c0))
 else
 qog false
def qrX (s2:Bool):Option AV:=some (df s2)
def qwT (_n:Nat) (c0:Int):Option AV :=
 qrX (!(z51 c0))
def qbC (s4:Int):Option AV:=some (dc s4)
def qax (ret:Int→Option AV) (k0:Option AV) (next:List Int→Int→Int→Option AV) (_n:Nat) (s0:List Int) (s7:Int) (s8:Int):Option AV :=
 bif (decide (s8 < s7)) then
 bif ((decide (0≤s8))&&(decide (s8 < s0.length))) then
 bif (z50 (s0.getD s8.toNat 0)) then
 ret s8
 else
 next s0 s7 (IntKind.wrap .i64 (s8+1))
 else none
 else
 k0
def qbg (ret:Int→Option AV) (k0:Option AV):Nat→List Int→Int→Int→Option AV
 | 0=>fun _ _ _=>none
 | n+1=>qax ret k0 (qbg ret k0 n) n
def qaV (_n:Nat):Option AV :=
 qbC (-1:Int)
def qep (n:Nat) (s0:List Int):Option AV :=
 qbg qbC (qaV n) n s0 (s0.length:Int) (0:Int)
def qbD (s4:Int):Option AV:=some (dc s4)
def qay (ret:Int→Option AV) (k0:Option AV) (next:List Int→Int→Int→Option AV) (_n:Nat) (s0:List Int) (s7:Int) (s8:Int):Option AV :=
 bif (decide (s8 < s7)) then
 bif ((decide (0≤s8))&&(decide (s8 < s0.length))) then
 bif (z33 (s0.getD s8.toNat 0)) then
 ret s8
 else
 next s0 s7 (IntKind.wrap .i64 (s8+1))
 else none
 else
 k0
def qbh (ret:Int→Option AV) (k0:Option AV):Nat→List Int→Int→Int→Option AV
 | 0=>fun _ _ _=>none
 | n+1=>qay ret k0 (qbh ret k0 n) n
def qaW (_n:Nat):Option AV :=
 qbD (-1:Int)
def qeq (n:Nat) (s0:List Int):Option AV :=
 qbh qbD (qaW n) n s0 (s0.length:Int) (0:Int)
def qrY (s2:Int):Option AV:=some (dc s2)
def quj (_n:Nat) (t0:List Int):Option AV :=
 bif ((qfA t0)&&true) then
 qrY (z49 t0)
 else none
def qrZ (s2:Bool):Option AV:=some (df s2)
def quk (_n:Nat) (t0:List Int):Option AV :=
 bif ((qpv t0)&&true) then
 qrZ ((z30 t0)==(-1:Int))
 else none
def qhV (s4:Int):Option AV:=some (dc s4)
def qdk (ret:Int→Option AV) (k0:Option AV) (next:List Int→Int→Int→Int→Option AV) (_n:Nat) (s0:List Int) (v1:Int) (s7:Int) (s8:Int):Option AV :=
 bif (decide (s8 < s7)) then
 bif ((decide (0≤s8))&&(decide (s8 < s0.length))) then
 bif (v1==(s0.getD s8.toNat 0)) then
 ret s8
 else
 next s0 v1 s7 (IntKind.wrap .i64 (s8+1))
 else none
 else
 k0
def qiL (ret:Int→Option AV) (k0:Option AV):Nat→List Int→Int→Int→Int→Option AV
 | 0=>fun _ _ _ _=>none
 | n+1=>qdk ret k0 (qiL ret k0 n) n
def qfg (_n:Nat):Option AV :=
 qhV (-1:Int)
def qrp (n:Nat) (s0:List Int) (v1:Int):Option AV :=
 qiL qhV (qfg n) n s0 v1 (s0.length:Int) (0:Int)
def qsa (s4:Bool):Option AV:=some (df s4)
def qul (_n:Nat) (s0:List Int) (v1:Int):Option AV :=
 bif ((qlb s0 v1)&&true) then
 qsa (decide (0≤(z31 s0 v1)))
 else none
def qoh (s4:Int):Option AV:=some (dc s4)
def z7_sh (_n:Nat) (name0:List UInt8) (t1:List Int):Option AV :=
 bif ((qrh name0)&&true) then
 bif (!(z14 name0)) then
 qoh (13:Int)
 else
 bif ((qlc t1)&&true) then
 bif (!(z15 t1)) then
 qoh (7:Int)
 else
 bif ((qri t1 (0:Int))&&true) then
 bif (z16 t1 (0:Int)) then
 qoh (8:Int)
 else
 qoh (0:Int)
 else none
 else none
 else none
def qsb (s4:Bool):Option AV:=some (df s4)
def qum (_n:Nat) (s0:List Int):Option AV :=
 bif ((qfA s0)&&true) then
 qsb (decide (0≤(qm s0)))
 else none
def qsc (s2:Bool):Option AV:=some (df s2)
def qun (_n:Nat) (t0:List Int):Option AV :=
 bif ((qrj t0)&&true) then
 qsc (!(z32 t0))
 else none
def qsd (s2:Bool):Option AV:=some (df s2)
def qwU (_n:Nat) (c0:Int):Option AV :=
 qsd (decide ((IntKind.wrap .u32 c0) < (256:Int)))
def qhW (s2:Int):Option AV:=some (dc s2)
def qdl (ret:Int→Option AV) (k0:Option AV) (next:List Int→Int→Int→Option AV) (_n:Nat) (t0:List Int) (s5:Int) (s6:Int):Option AV :=
 bif (decide (s6 < s5)) then
 bif ((decide (0≤s6))&&(decide (s6 < t0.length))) then
 bif (!(z52 (t0.getD s6.toNat 0))) then
 ret s6
 else
 next t0 s5 (IntKind.wrap .i64 (s6+1))
 else none
 else
 k0
def qiM (ret:Int→Option AV) (k0:Option AV):Nat→List Int→Int→Int→Option AV
 | 0=>fun _ _ _=>none
 | n+1=>qdl ret k0 (qiM ret k0 n) n
def qfh (_n:Nat):Option AV :=
 qhW (-1:Int)
def qrq (n:Nat) (t0:List Int):Option AV :=
 qiM qhW (qfh n) n t0 (t0.length:Int) (0:Int)
def qoi (s2:List UInt8) (s3:Int):Option AV:=some (.tup [(da s2),(dc s3)])
def qdm (k0:List UInt8→Option AV) (next:List UInt8→List Int→Int→Int→Option AV) (_n:Nat) (s4:List UInt8) (s13:List Int) (s14:Int) (s15:Int):Option AV :=
 bif (decide (s15 < s14)) then
 bif ((decide (0≤s15))&&(decide (s15 < s13.length))) then
 bif ((decide (0≤s15))&&(decide (s15 < s4.length))) then
 next (List.set s4 s15.toNat (UInt8.ofNat (IntKind.wrap .u8 (s13.getD s15.toNat 0)).toNat)) s13 s14 (IntKind.wrap .i64 (s15+1))
 else none
 else none
 else
 k0 s4
def qgO (k0:List UInt8→Option AV):Nat→List UInt8→List Int→Int→Int→Option AV
 | 0=>fun _ _ _ _=>none
 | n+1=>qdm k0 (qgO k0 n) n
def qdn (_n:Nat) (s4:List UInt8):Option AV :=
 qoi s4 (0:Int)
def qrr (n:Nat) (t0:List Int):Option AV :=
 bif ((qpy t0)&&true) then
 bif ((z34 t0) != (-1:Int)) then
 qoi ([]:List UInt8) (9:Int)
 else
 bif (((decide (0≤(t0.length:Int)))&&(decide ((t0.length:Int)≤(t0.length:Int))))&&(decide ((t0.length:Int)≤(room:Int)))) then
 qgO (qdn n) n (List.replicate (t0.length:Int).toNat (0:UInt8)) t0 (t0.length:Int) (0:Int)
 else none
 else none
def qoj (s2:Bool):Option AV:=some (df s2)
def qup (_n:Nat) (s0:List UInt8):Option AV :=
 bif (decide ((0:Int) < (s0.length:Int))) then
 bif ((qlf s0 (64:Int))&&true) then
 qoj (z29 s0 (64:Int))
 else none
 else
 qoj false
def qse (s2:List UInt8):Option AV:=some (db s2 (some (2,5)))
def qI (s7:List UInt8) (s9:Int):=([(s7.getD s9.toNat (0:UInt8))]:List UInt8)
def qdo (k0:List UInt8→Option AV) (next:List UInt8→List UInt8→Int→Int→Option AV) (_n:Nat) (out3:List UInt8) (s7:List UInt8) (s8:Int) (s9:Int):Option AV :=
 bif (decide (s9 < s8)) then bif ((decide (0≤s9))&&(decide (s9 < s7.length))) then bif ((s7.getD s9.toNat (0:UInt8))==(34:UInt8)) then bif ((s7.getD s9.toNat (0:UInt8))==(34:UInt8)) then bif (decide (out3.length+List.length ([(92:UInt8)]:List UInt8)≤room)) then bif (decide (List.length (out3++([(92:UInt8)]:List UInt8))+List.length (qI s7 s9)≤room)) then next ((out3++([(92:UInt8)]:List UInt8))++(qI s7 s9)) s7 s8 (IntKind.wrap .i64 (s9+1)) else none else none else bif (decide (out3.length+List.length (qI s7 s9)≤room)) then next (out3++(qI s7 s9)) s7 s8 (IntKind.wrap .i64 (s9+1)) else none else bif ((s7.getD s9.toNat (0:UInt8))==(92:UInt8)) then bif (decide (out3.length+List.length ([(92:UInt8)]:List UInt8)≤room)) then bif (decide (List.length (out3++([(92:UInt8)]:List UInt8))+List.length (qI s7 s9)≤room)) then next ((out3++([(92:UInt8)]:List UInt8))++(qI s7 s9)) s7 s8 (IntKind.wrap .i64 (s9+1)) else none else none else bif (decide (out3.length+List.length (qI s7 s9)≤room)) then next (out3++(qI s7 s9)) s7 s8 (IntKind.wrap .i64 (s9+1)) else none else none else k0 out3
def qiN (k0:List UInt8→Option AV):Nat→List UInt8→List UInt8→Int→Int→Option AV
 | 0=>fun _ _ _ _=>none
 | n+1=>qdo k0 (qiN k0 n) n
def qce (_n:Nat) (out3:List UInt8):Option AV :=
 bif (decide (out3.length+List.length ([(34:UInt8)]:List UInt8)≤room)) then
 qse (out3++([(34:UInt8)]:List UInt8))
 else none
def qrs (n:Nat) (s0:List UInt8):Option AV :=
 qiN (qce n) n ([(34:UInt8)]:List UInt8) s0 (s0.length:Int) (0:Int)
def qok (s2:List UInt8):Option AV:=some (db s2 (some (2,5)))
def quq (_n:Nat) (s0:List UInt8):Option AV :=
 bif ((qre s0)&&true) then
 bif (z35 s0) then
 bif ((qeY s0)&&true) then
 qok (z19 s0)
 else none
 else
 bif ((qrd s0)&&true) then
 qok (z36 s0)
 else none
 else none
def qur (s4:List UInt8) (s5:Bool):Option AV:=some (.tup [(da s4),(df s5)])
def z8_sh (_n:Nat) (name0:List UInt8) (t1:List Int):Option AV :=
 bif ((qrk t1)&&true) then
 bif (!(z17 t1)) then
 qur ([]:List UInt8) false
 else
 bif ((qld t1)&&true) then
 bif ((qeY name0)&&true) then
 bif (decide (List.length (z19 name0)+List.length ([(61:UInt8)]:List UInt8)≤room)) then
 bif ((qrf ((z18 t1).1))&&true) then
 bif (decide (List.length ((z19 name0)++([(61:UInt8)]:List UInt8))+List.length (z20 ((z18 t1).1))≤room)) then
 qur (((z19 name0)++([(61:UInt8)]:List UInt8))++(z20 ((z18 t1).1))) (decide (((((z19 name0)++([(61:UInt8)]:List UInt8))++(z20 ((z18 t1).1))).length:Int)≤(74:Int)))
 else none
 else none
 else none
 else none
 else none
 else none
def qsf (s0:List (UInt8×(Int×Unit))):Option AV:=some (.dat (.arr 8 (.pair .byte (.pair (.int .i32) .unit))) s0 none)
def qwV (_n:Nat):Option AV :=
 qsf ([((164:UInt8),((8364:Int),())),((166:UInt8),((352:Int),())),((168:UInt8),((353:Int),())),((180:UInt8),((381:Int),())),((184:UInt8),((382:Int),())),((188:UInt8),((338:Int),())),((189:UInt8),((339:Int),())),((190:UInt8),((376:Int),()))]:List (UInt8×(Int×Unit)))
def qdS (s2:UInt8) (s3:Bool):Option AV:=some (.tup [(di s2 none),(df s3)])
def qol (ret:UInt8→Bool→Option AV) (k0:Int→Option AV) (next:Int→List (UInt8×(Int×Unit))→Int→Option AV) (_n:Nat) (c0:Int) (s6:List (UInt8×(Int×Unit))) (s7:Int):Option AV :=
 bif (decide (s7 < (8:Int))) then
 bif ((decide (0≤s7))&&(decide (s7 < (8:Nat)))) then
 bif (c0==(s6.getD s7.toNat ((0:UInt8),((0:Int),()))).2.1) then
 ret (s6.getD s7.toNat ((0:UInt8),((0:Int),()))).1 true
 else
 bif (c0==(IntKind.wrap .i32 ((UInt8.toNat (s6.getD s7.toNat ((0:UInt8),((0:Int),()))).1:Nat):Int))) then
 ret (0:UInt8) false
 else
 next c0 s6 (IntKind.wrap .i64 (s7+1))
 else none
 else
 k0 c0
def qlD (ret:UInt8→Bool→Option AV) (k0:Int→Option AV):Nat→Int→List (UInt8×(Int×Unit))→Int→Option AV
 | 0=>fun _ _ _=>none
 | n+1=>qol ret k0 (qlD ret k0 n) n
def qdp (_n:Nat) (c0:Int):Option AV :=
 bif (decide (c0 < (0:Int))) then
 qdS (0:UInt8) false
 else
 bif (decide ((256:Int)≤c0)) then
 qdS (0:UInt8) false
 else
 qdS (UInt8.ofNat (IntKind.wrap .u8 c0).toNat) true
def qus (n:Nat) (c0:Int):Option AV :=
 qlD qdS (qdp n) n c0 z68 (0:Int)
def qsg (s2:Bool):Option AV:=some (df s2)
def qwW (_n:Nat) (c0:Int):Option AV :=
 qsg ((z59 c0).2)
def qsh (s0:List Int):Option AV:=some (.dat (.sl (.int .i32)) s0 none)
def qwX (_n:Nat):Option AV :=
 qsh (List.drop 0 (List.take 32 ([(8364:Int),(0:Int),(8218:Int),(402:Int),(8222:Int),(8230:Int),(8224:Int),(8225:Int),(710:Int),(8240:Int),(352:Int),(8249:Int),(338:Int),(0:Int),(381:Int),(0:Int),(0:Int),(8216:Int),(8217:Int),(8220:Int),(8221:Int),(8226:Int),(8211:Int),(8212:Int),(732:Int),(8482:Int),(353:Int),(8250:Int),(339:Int),(0:Int),(382:Int),(376:Int)]:List Int)))
def qad (s2:UInt8) (s3:Bool):Option AV:=some (.tup [(di s2 none),(df s3)])
def qbM (c0:Int):=(UInt8.ofNat (IntKind.wrap .u8 (IntKind.wrap .i64 ((128:Int)+(z31 z69 c0)))).toNat)
def qbN (c0:Int):=(decide ((z31 z69 c0) < (0:Int)))
def qbO (c0:Int):=((qlb z69 c0)&&true)
def qut (_n:Nat) (c0:Int):Option AV :=
 bif (decide (0≤c0)) then bif (decide (c0 < (128:Int))) then bif (decide (c0 < (128:Int))) then qad (UInt8.ofNat (IntKind.wrap .u8 c0).toNat) true else bif (decide (c0 < (256:Int))) then qad (0:UInt8) false else bif (qbO c0) then bif (qbN c0) then qad (0:UInt8) false else qad (qbM c0) true else none else bif (decide ((160:Int)≤c0)) then bif (decide (c0 < (256:Int))) then qad (UInt8.ofNat (IntKind.wrap .u8 c0).toNat) true else bif (decide (c0 < (256:Int))) then qad (0:UInt8) false else bif (qbO c0) then bif (qbN c0) then qad (0:UInt8) false else qad (qbM c0) true else none else bif (decide (c0 < (256:Int))) then qad (0:UInt8) false else bif (qbO c0) then bif (qbN c0) then qad (0:UInt8) false else qad (qbM c0) true else none else bif (decide ((160:Int)≤c0)) then bif (decide (c0 < (256:Int))) then qad (UInt8.ofNat (IntKind.wrap .u8 c0).toNat) true else bif (decide (c0 < (256:Int))) then qad (0:UInt8) false else bif (qbO c0) then bif (qbN c0) then qad (0:UInt8) false else qad (qbM c0) true else none else bif (decide (c0 < (256:Int))) then qad (0:UInt8) false else bif (qbO c0) then bif (qbN c0) then qad (0:UInt8) false else qad (qbM c0) true else none
def qsi (s2:Bool):Option AV:=some (df s2)
def qwY (_n:Nat) (c0:Int):Option AV :=
 qsi ((z61 c0).2)
def qdT (s4:Bool):Option AV:=some (df s4)
def quu (_n:Nat) (charset0:Int) (c1:Int):Option AV :=
 bif (charset0==(1:Int)) then
 bif (decide (0≤c1)) then
 qdT (decide (c1 < (128:Int)))
 else
 qdT false
 else
 bif (charset0==(2:Int)) then
 qdT (z52 c1)
 else
 bif (charset0==(3:Int)) then
 qdT (z53 c1)
 else
 bif (charset0==(4:Int)) then
 qdT (z54 c1)
 else
 bif (charset0==(5:Int)) then
 qdT (z51 c1)
 else
 qdT false
def qom (s2:Int):Option AV:=some (dc s2)
def qdq (k0:Int→Option AV) (next:Int→Int→Int→Option AV) (_n:Nat) (c0:Int) (s3:Int) (s5:Int):Option AV :=
 bif (decide (s5 < (5:Int))) then
 bif (z37 (IntKind.wrap .i64 (s5+1)) c0) then
 bif (decide (0≤(IntKind.wrap .i64 (s5+1)))) then
 next c0 (bits .or .i64 s3 (IntKind.wrap .i64 ((1:Int)*2 ^ (min (IntKind.wrap .i64 (s5+1)).toNat (IntKind.bits .i64))))) (IntKind.wrap .i64 (s5+1))
 else none
 else
 next c0 s3 (IntKind.wrap .i64 (s5+1))
 else
 k0 s3
def qgP (k0:Int→Option AV):Nat→Int→Int→Int→Option AV
 | 0=>fun _ _ _=>none
 | n+1=>qdq k0 (qgP k0 n) n
def qcf (_n:Nat) (s3:Int):Option AV :=
 qom s3
def qrt (n:Nat) (c0:Int):Option AV :=
 qgP (qcf n) n c0 (0:Int) (0:Int)
def qsj (s2:Int):Option AV:=some (dc s2)
def quv (_n:Nat) (x0:Int):Option AV :=
 bif ((qti x0)&&true) then
 qsj (z56 x0)
 else none
def qon (s2:Int):Option AV:=some (dc s2)
def quw (_n:Nat) (sets0:Int):Option AV :=
 bif (sets0==(0:Int)) then
 qon (0:Int)
 else
 bif ((qpp (IntKind.wrap .u64 sets0))&&true) then
 qon (z38 (IntKind.wrap .u64 sets0))
 else none
def qux (s2:Int) (s3:Int):Option AV:=some (.tup [(dc s2),(dc s3)])
def qfQ (k0:Int→Option AV) (next:Int→List Int→Int→Int→Option AV) (_n:Nat) (all4:Int) (s7:List Int) (s8:Int) (s9:Int):Option AV :=
 bif (decide (s9 < s8)) then
 bif ((decide (0≤s9))&&(decide (s9 < s7.length))) then
 next (bits .and .i64 all4 (z21 (s7.getD s9.toNat 0))) s7 s8 (IntKind.wrap .i64 (s9+1))
 else none
 else
 k0 all4
def z9_l3 (k0:Int→Option AV):Nat→Int→List Int→Int→Int→Option AV
 | 0=>fun _ _ _ _=>none
 | n+1=>qfQ k0 (z9_l3 k0 n) n
def qfi (_n:Nat) (all4:Int):Option AV :=
 bif (all4==(0:Int)) then
 qux (0:Int) (7:Int)
 else
 bif ((qpq all4)&&true) then
 qux (z22 all4) (0:Int)
 else none
def z9_sh (n:Nat) (t0:List Int):Option AV :=
 z9_l3 (qfi n) n (62:Int) t0 (t0.length:Int) (0:Int)
def qbU (s2:Int):Option AV:=some (dc s2)
def quy (_n:Nat) (charset0:Int):Option AV :=
 bif (charset0==(1:Int)) then
 qbU (128:Int)
 else
 bif (charset0==(2:Int)) then
 bif (charset0==(2:Int)) then
 qbU (256:Int)
 else
 bif (charset0==(4:Int)) then
 qbU (251:Int)
 else
 bif (charset0==(5:Int)) then
 qbU (1112064:Int)
 else
 qbU (0:Int)
 else
 bif (charset0==(3:Int)) then
 qbU (256:Int)
 else
 bif (charset0==(4:Int)) then
 qbU (251:Int)
 else
 bif (charset0==(5:Int)) then
 qbU (1112064:Int)
 else
 qbU (0:Int)
def qhX (s4:Int):Option AV:=some (dc s4)
def qdr (ret:Int→Option AV) (k0:Option AV) (next:Int→List Int→Int→Int→Option AV) (_n:Nat) (charset0:Int) (s7:List Int) (s8:Int) (s9:Int):Option AV :=
 bif (decide (s9 < s8)) then
 bif ((decide (0≤s9))&&(decide (s9 < s7.length))) then
 bif (!(z37 charset0 (s7.getD s9.toNat 0))) then
 ret s9
 else
 next charset0 s7 s8 (IntKind.wrap .i64 (s9+1))
 else none
 else
 k0
def qiO (ret:Int→Option AV) (k0:Option AV):Nat→Int→List Int→Int→Int→Option AV
 | 0=>fun _ _ _ _=>none
 | n+1=>qdr ret k0 (qiO ret k0 n) n
def qfj (_n:Nat):Option AV :=
 qhX (-1:Int)
def qru (n:Nat) (charset0:Int) (t1:List Int):Option AV :=
 qiO qhX (qfj n) n charset0 t1 (t1.length:Int) (0:Int)
def qoo (s4:Bool):Option AV:=some (df s4)
def quz (_n:Nat) (charset0:Int) (t1:List Int):Option AV :=
 bif (decide ((0:Int) < (z39 charset0))) then
 bif ((qpC charset0 t1)&&true) then
 qoo ((z57 charset0 t1)==(-1:Int))
 else none
 else
 qoo false
def qfR (s2:Int):Option AV:=some (dc s2)
def quA (_n:Nat) (c0:Int):Option AV :=
 bif (!(z51 c0)) then
 qfR (0:Int)
 else
 bif (decide (c0 < (128:Int))) then
 qfR (1:Int)
 else
 bif (decide (c0 < (2048:Int))) then
 qfR (2:Int)
 else
 bif (decide (c0 < (65536:Int))) then
 qfR (3:Int)
 else
 qfR (4:Int)
def qhY (s2:UInt8):Option AV:=some (di s2 none)
def quB (_n:Nat) (n0:Int):Option AV :=
 bif (n0==(2:Int)) then
 qhY (192:UInt8)
 else
 bif (n0==(3:Int)) then
 qhY (224:UInt8)
 else
 bif (n0==(4:Int)) then
 qhY (240:UInt8)
 else
 qhY (0:UInt8)
def qfS (s4:List UInt8) (s5:Int):Option AV:=some (.tup [(da s4),(dc s5)])
def qgQ (c1:Int):=([((z67 (z66 c1)) ||| (UInt8.ofNat (IntKind.wrap .u8 (Int.fdiv c1 (2 ^ (min (IntKind.wrap .i64 ((6:Int)*(IntKind.wrap .i64 ((z66 c1) - (1:Int))))).toNat (IntKind.bits .i32))))).toNat))]:List UInt8)
def qbi (c1:Int):=([((128:UInt8) ||| ((UInt8.ofNat (IntKind.wrap .u8 (Int.fdiv c1 (2 ^ (min (6:Int).toNat (IntKind.bits .i32))))).toNat) &&& (63:UInt8)))]:List UInt8)
def qcO (c1:Int):=([((128:UInt8) ||| ((UInt8.ofNat (IntKind.wrap .u8 (Int.fdiv c1 (2 ^ (min (12:Int).toNat (IntKind.bits .i32))))).toNat) &&& (63:UInt8)))]:List UInt8)
def qbj (c1:Int):=([((128:UInt8) ||| ((UInt8.ofNat (IntKind.wrap .u8 c1).toNat) &&& (63:UInt8)))]:List UInt8)
def qae (b0:List UInt8) (c1:Int):=((z19 b0)++(qgQ c1))
def quC (_n:Nat) (b0:List UInt8) (c1:Int):Option AV :=
 bif ((z66 c1)==(0:Int)) then qfS ([]:List UInt8) (7:Int) else bif (decide (0≤(IntKind.wrap .i64 ((6:Int)*(IntKind.wrap .i64 ((z66 c1) - (1:Int))))))) then bif ((qeY b0)&&true) then bif (decide (List.length (z19 b0)+List.length (qgQ c1)≤room)) then bif ((z66 c1)==(4:Int)) then bif (decide (List.length (qae b0 c1)+List.length (qcO c1)≤room)) then bif (decide (List.length ((qae b0 c1)++(qcO c1))+List.length (qbi c1)≤room)) then bif (decide (List.length (((qae b0 c1)++(qcO c1))++(qbi c1))+List.length (qbj c1)≤room)) then qfS ((((qae b0 c1)++(qcO c1))++(qbi c1))++(qbj c1)) (0:Int) else none else none else none else bif ((z66 c1)==(3:Int)) then bif (decide (List.length (qae b0 c1)+List.length (qbi c1)≤room)) then bif (decide (List.length ((qae b0 c1)++(qbi c1))+List.length (qbj c1)≤room)) then qfS (((qae b0 c1)++(qbi c1))++(qbj c1)) (0:Int) else none else none else bif ((z66 c1)==(2:Int)) then bif (decide (List.length (qae b0 c1)+List.length (qbj c1)≤room)) then qfS ((qae b0 c1)++(qbj c1)) (0:Int) else none else qfS (qae b0 c1) (0:Int) else none else none else none
def qop (s2:List UInt8) (s3:Int):Option AV:=some (.tup [(da s2),(dc s3)])
def qds (k0:List UInt8→Option AV) (next:List UInt8→List Int→Int→Int→Option AV) (_n:Nat) (out4:List UInt8) (s12:List Int) (s13:Int) (s14:Int):Option AV :=
 bif (decide (s14 < s13)) then
 bif ((decide (0≤s14))&&(decide (s14 < s12.length))) then
 bif ((qpw ([]:List UInt8) (s12.getD s14.toNat 0))&&true) then
 bif (decide (out4.length+List.length ((z58 ([]:List UInt8) (s12.getD s14.toNat 0)).1)≤room)) then
 next (out4++((z58 ([]:List UInt8) (s12.getD s14.toNat 0)).1)) s12 s13 (IntKind.wrap .i64 (s14+1))
 else none
 else none
 else none
 else
 k0 out4
def qiP (k0:List UInt8→Option AV):Nat→List UInt8→List Int→Int→Int→Option AV
 | 0=>fun _ _ _ _=>none
 | n+1=>qds k0 (qiP k0 n) n
def qdt (_n:Nat) (out4:List UInt8):Option AV :=
 qop out4 (0:Int)
def qrv (n:Nat) (t0:List Int):Option AV :=
 bif ((qlc t0)&&true) then
 bif (!(z15 t0)) then
 qop ([]:List UInt8) (7:Int)
 else
 qiP (qdt n) n ([]:List UInt8) t0 (t0.length:Int) (0:Int)
 else none
def qfT (s2:List UInt8) (s3:Int):Option AV:=some (.tup [(da s2),(dc s3)])
def qdu (ret:List UInt8→Int→Option AV) (k0:List UInt8→Option AV) (next:List UInt8→List Int→Int→Int→Option AV) (_n:Nat) (s4:List UInt8) (s9:List Int) (s10:Int) (s11:Int):Option AV :=
 bif (decide (s11 < s10)) then
 bif ((decide (0≤s11))&&(decide (s11 < s9.length))) then
 bif (!((z59 (s9.getD s11.toNat 0)).2)) then
 ret ([]:List UInt8) (9:Int)
 else
 bif (decide (s4.length+List.length ([((z59 (s9.getD s11.toNat 0)).1)]:List UInt8)≤room)) then
 next (s4++([((z59 (s9.getD s11.toNat 0)).1)]:List UInt8)) s9 s10 (IntKind.wrap .i64 (s11+1))
 else none
 else none
 else
 k0 s4
def qiQ (ret:List UInt8→Int→Option AV) (k0:List UInt8→Option AV):Nat→List UInt8→List Int→Int→Int→Option AV
 | 0=>fun _ _ _ _=>none
 | n+1=>qdu ret k0 (qiQ ret k0 n) n
def qdv (_n:Nat) (s4:List UInt8):Option AV :=
 qfT s4 (0:Int)
def qrw (n:Nat) (t0:List Int):Option AV :=
 qiQ qfT (qdv n) n ([]:List UInt8) t0 (t0.length:Int) (0:Int)
def qhZ (s2:Int):Option AV:=some (dc s2)
def qdw (ret:Int→Option AV) (k0:Option AV) (next:List Int→Int→Int→Option AV) (_n:Nat) (s5:List Int) (s6:Int) (s7:Int):Option AV :=
 bif (decide (s7 < s6)) then
 bif ((decide (0≤s7))&&(decide (s7 < s5.length))) then
 bif (!(z54 (s5.getD s7.toNat 0))) then
 ret s7
 else
 next s5 s6 (IntKind.wrap .i64 (s7+1))
 else none
 else
 k0
def qiR (ret:Int→Option AV) (k0:Option AV):Nat→List Int→Int→Int→Option AV
 | 0=>fun _ _ _=>none
 | n+1=>qdw ret k0 (qiR ret k0 n) n
def qfk (_n:Nat):Option AV :=
 qhZ (-1:Int)
def qrx (n:Nat) (t0:List Int):Option AV :=
 qiR qhZ (qfk n) n t0 (t0.length:Int) (0:Int)
def qoq (s2:List UInt8) (s3:Int):Option AV:=some (.tup [(da s2),(dc s3)])
def qdx (k0:List UInt8→Option AV) (next:List UInt8→List Int→Int→Int→Option AV) (_n:Nat) (s4:List UInt8) (s15:List Int) (s16:Int) (s17:Int):Option AV :=
 bif (decide (s17 < s16)) then
 bif ((decide (0≤s17))&&(decide (s17 < s15.length))) then
 bif (decide (s4.length+List.length ([((z61 (s15.getD s17.toNat 0)).1)]:List UInt8)≤room)) then
 next (s4++([((z61 (s15.getD s17.toNat 0)).1)]:List UInt8)) s15 s16 (IntKind.wrap .i64 (s17+1))
 else none
 else none
 else
 k0 s4
def qiS (k0:List UInt8→Option AV):Nat→List UInt8→List Int→Int→Int→Option AV
 | 0=>fun _ _ _ _=>none
 | n+1=>qdx k0 (qiS k0 n) n
def qdy (_n:Nat) (s4:List UInt8):Option AV :=
 qoq s4 (0:Int)
def qry (n:Nat) (t0:List Int):Option AV :=
 bif ((qpx t0)&&true) then
 bif (decide (0≤(z60 t0))) then
 qoq ([]:List UInt8) (9:Int)
 else
 bif (((decide (0≤(0:Int)))&&(decide (0≤(t0.length:Int))))&&(decide ((t0.length:Int)≤(room:Int)))) then
 qiS (qdy n) n (List.replicate (0:Int).toNat (0:UInt8)) t0 (t0.length:Int) (0:Int)
 else none
 else none
def qfl (s4:List UInt8) (s5:Int):Option AV:=some (.tup [(da s4),(dc s5)])
def quD (_n:Nat) (charset0:Int) (t1:List Int):Option AV :=
 bif ((z39 charset0)==(0:Int)) then
 qfl ([]:List UInt8) (10:Int)
 else
 bif ((qpD charset0 t1)&&true) then
 bif (!(z40 charset0 t1)) then
 qfl ([]:List UInt8) (9:Int)
 else
 bif (charset0==(5:Int)) then
 bif ((qpB t1)&&true) then
 qfl ((z41 t1).1) ((z41 t1).2)
 else none
 else
 bif (charset0==(3:Int)) then
 bif ((qpz t1)&&true) then
 qfl ((z42 t1).1) ((z42 t1).2)
 else none
 else
 bif (charset0==(4:Int)) then
 bif ((qpA t1)&&true) then
 qfl ((z43 t1).1) ((z43 t1).2)
 else none
 else
 bif ((qld t1)&&true) then
 qfl ((z18 t1).1) ((z18 t1).2)
 else none
 else none
def qor (s2:Int):Option AV:=some (dc s2)
def quE (_n:Nat) (c0:UInt8):Option AV :=
 bif (z62 c0 (256:Int)) then
 qor (1:Int)
 else
 qor (3:Int)
def qsk (s2:UInt8):Option AV:=some (di s2 none)
def quF (_n:Nat) (n0:Int):Option AV :=
 bif ((decide (0≤(bits .and .i64 n0 (15:Int))))&&(decide ((bits .and .i64 n0 (15:Int)) < ([48,49,50,51,52,53,54,55,56,57,65,66,67,68,69,70]:List UInt8).length))) then
 qsk (([48,49,50,51,52,53,54,55,56,57,65,66,67,68,69,70]:List UInt8).getD (bits .and .i64 n0 (15:Int)).toNat (0:UInt8))
 else none
def qsl (s2:List UInt8):Option AV:=some (db s2 (some (2,5)))
def quG (_n:Nat) (c0:UInt8):Option AV :=
 bif ((qfz (IntKind.wrap .i64 ((UInt8.toNat (UInt8.ofNat (UInt8.toNat c0 / 2 ^ (min (4:Int).toNat 8))):Nat):Int)))&&true) then
 bif ((qfz (IntKind.wrap .i64 ((UInt8.toNat c0:Nat):Int)))&&true) then
 qsl ([(z71 (IntKind.wrap .i64 ((UInt8.toNat (UInt8.ofNat (UInt8.toNat c0 / 2 ^ (min (4:Int).toNat 8))):Nat):Int))),(z71 (IntKind.wrap .i64 ((UInt8.toNat c0:Nat):Int)))]:List UInt8)
 else none
 else none
def qsm (s6:List UInt8):Option AV:=some (db s6 (some (6,5)))
def quH (_n:Nat) (b0:List UInt8) (sign1:UInt8) (c2:UInt8):Option AV :=
 bif ((qeY b0)&&true) then
 bif (decide (List.length (z19 b0)+List.length ([sign1]:List UInt8)≤room)) then
 bif (decide (List.length ((z19 b0)++([sign1]:List UInt8))+List.length (z63 c2)≤room)) then
 qsm (((z19 b0)++([sign1]:List UInt8))++(z63 c2))
 else none
 else none
 else none
def qsn (s2:List UInt8):Option AV:=some (db s2 (some (2,5)))
def qdz (k0:List UInt8→Option AV) (next:List UInt8→List UInt8→Int→Int→Option AV) (_n:Nat) (out3:List UInt8) (s6:List UInt8) (s7:Int) (s8:Int):Option AV :=
 bif (decide (s8 < s7)) then
 bif ((decide (0≤s8))&&(decide (s8 < s6.length))) then
 bif ((z44 (s6.getD s8.toNat (0:UInt8)))==(1:Int)) then
 bif (decide (out3.length+List.length ([(s6.getD s8.toNat (0:UInt8))]:List UInt8)≤room)) then
 next (out3++([(s6.getD s8.toNat (0:UInt8))]:List UInt8)) s6 s7 (IntKind.wrap .i64 (s8+1))
 else none
 else
 bif ((qpu out3 (37:UInt8) (s6.getD s8.toNat (0:UInt8)))&&true) then
 next (z45 out3 (37:UInt8) (s6.getD s8.toNat (0:UInt8))) s6 s7 (IntKind.wrap .i64 (s8+1))
 else none
 else none
 else
 k0 out3
def qiT (k0:List UInt8→Option AV):Nat→List UInt8→List UInt8→Int→Int→Option AV
 | 0=>fun _ _ _ _=>none
 | n+1=>qdz k0 (qiT k0 n) n
def qdA (_n:Nat) (out3:List UInt8):Option AV :=
 qsn out3
def qrz (n:Nat) (s0:List UInt8):Option AV :=
 qiT (qdA n) n ([]:List UInt8) s0 (s0.length:Int) (0:Int)
def qso (s4:List (List UInt8)):Option AV:=some (.dat (.sl (.sl .byte)) s4 (some (4,22)))
def qaz (t1:List Int) (s11:Int):=(List.drop s11.toNat (List.take (IntKind.wrap .i64 (s11+1)).toNat t1))
def qdB (k0:List (List UInt8)→Option AV) (next:Int→List Int→List (List UInt8)→Int→Int→Option AV) (_n:Nat) (charset0:Int) (t1:List Int) (l5:List (List UInt8)) (s10:Int) (s11:Int):Option AV :=
 bif (decide (s11 < s10)) then bif (((decide (0≤s11))&&(decide (s11≤(IntKind.wrap .i64 (s11+1)))))&&(decide ((IntKind.wrap .i64 (s11+1))≤(t1.length:Int)))) then bif ((qpE charset0 (qaz t1 s11))&&true) then bif ((qrc ((z23 charset0 (qaz t1 s11)).1))&&true) then bif (decide (l5.length+List.length ([(z24 ((z23 charset0 (qaz t1 s11)).1))]:List (List UInt8))≤room)) then next charset0 t1 (l5++([(z24 ((z23 charset0 (qaz t1 s11)).1))]:List (List UInt8))) s10 (IntKind.wrap .i64 (s11+1)) else none else none else none else none else k0 l5
def qiU (k0:List (List UInt8)→Option AV):Nat→Int→List Int→List (List UInt8)→Int→Int→Option AV
 | 0=>fun _ _ _ _ _=>none
 | n+1=>qdB k0 (qiU k0 n) n
def qdC (_n:Nat) (l5:List (List UInt8)):Option AV :=
 qso l5
def qrA (n:Nat) (charset0:Int) (t1:List Int):Option AV :=
 qiU (qdC n) n charset0 t1 ([]:List (List UInt8)) (t1.length:Int) (0:Int)
def qfU (s2:List UInt8):Option AV:=some (.dat .str s2 none)
def qgR:=([48,48,48,49,48,50,48,51,48,52,48,53,48,54,48,55,48,56,48,57,49,48,49,49,49,50,49,51,49,52,49,53,49,54,49,55,49,56,49,57,50,48,50,49,50,50,50,51,50,52,50,53,50,54,50,55,50,56,50,57,51,48,51,49,51,50,51,51,51,52,51,53,51,54,51,55,51,56,51,57,52,48,52,49,52,50,52,51,52,52,52,53,52,54,52,55,52,56,52,57,53,48,53,49,53,50,53,51,53,52,53,53,53,54,53,55,53,56,53,57,54,48,54,49,54,50,54,51,54,52,54,53,54,54,54,55,54,56,54,57,55,48,55,49,55,50,55,51,55,52,55,53,55,54,55,55,55,56,55,57,56,48,56,49,56,50,56,51,56,52,56,53,56,54,56,55,56,56,56,57,57,48,57,49,57,50,57,51,57,52,57,53,57,54,57,55,57,56,57,57]:List UInt8)
def qgS:=([48,49,50,51,52,53,54,55,56,57,97,98,99,100,101,102,103,104,105,106,107,108,109,110,111,112,113,114,115,116,117,118,119,120,121,122]:List UInt8)
def qer (i0:Int):=(IntKind.wrap .i64 ((IntKind.wrap .i64 (i0*(2:Int)))+(2:Int)))
def qlE (_n:Nat) (i0:Int):Option AV :=
 bif (decide (i0 < (10:Int))) then bif (((decide (0≤i0))&&(decide (i0≤(IntKind.wrap .i64 (i0+1)))))&&(decide ((IntKind.wrap .i64 (i0+1))≤((qgS).length:Int)))) then qfU (List.drop i0.toNat (List.take (IntKind.wrap .i64 (i0+1)).toNat (qgS))) else none else bif (((decide (0≤(IntKind.wrap .i64 (i0*(2:Int)))))&&(decide ((IntKind.wrap .i64 (i0*(2:Int)))≤(qer i0))))&&(decide ((qer i0)≤((qgR).length:Int)))) then qfU (List.drop (IntKind.wrap .i64 (i0*(2:Int))).toNat (List.take (qer i0).toNat (qgR))) else none
def qsp (s6:List UInt8):Option AV:=some (db s6 (some (6,5)))
def quI (_n:Nat) (dst0:List UInt8) (i1:Int) (base2:Int):Option AV :=
 bif (base2==(10:Int)) then
 bif (decide (i1 < (100:Int))) then
 bif ((qrg (IntKind.wrap .i64 i1))&&true) then
 bif (decide (dst0.length+List.length (z75 (IntKind.wrap .i64 i1))≤room)) then
 qsp (dst0++(z75 (IntKind.wrap .i64 i1)))
 else none
 else none
 else
 none
 else
 none
def qos (s6:List UInt8):Option AV:=some (db s6 (some (6,5)))
def quJ (_n:Nat) (dst0:List UInt8) (i1:Int) (base2:Int):Option AV :=
 bif (decide (i1 < (0:Int))) then
 bif (decide (dst0.length+List.length ([(45:UInt8)]:List UInt8)≤room)) then
 bif (qlw (dst0++([(45:UInt8)]:List UInt8)) (IntKind.wrap .u64 (0 - (IntKind.wrap .u64 i1))) base2) then
 qos (z72 (dst0++([(45:UInt8)]:List UInt8)) (IntKind.wrap .u64 (0 - (IntKind.wrap .u64 i1))) base2)
 else none
 else none
 else
 bif (qlw dst0 (IntKind.wrap .u64 i1) base2) then
 qos (z72 dst0 (IntKind.wrap .u64 i1) base2)
 else none
def qsq (s6:List UInt8):Option AV:=some (db s6 (some (6,5)))
def quK (_n:Nat) (dst0:List UInt8) (i1:Int) (base2:Int):Option AV :=
 bif (qnD dst0 i1 base2) then
 qsq (z64 dst0 i1 base2)
 else none
def qia (s2:List UInt8):Option AV:=some (db s2 (some (2,5)))
def qbP (p0:(List UInt8)×(Int×(Bool×((List UInt8)×Unit)))):=((z19 p0.1)++([(42:UInt8)]:List UInt8))
def quL (_n:Nat) (p0:(List UInt8)×(Int×(Bool×((List UInt8)×Unit)))):Option AV :=
 bif ((qeY p0.1)&&true) then bif (decide (0≤p0.2.1)) then bif (decide (List.length (z19 p0.1)+List.length ([(42:UInt8)]:List UInt8)≤room)) then bif (qnE (qbP p0) p0.2.1 (10:Int)) then bif p0.2.2.1 then bif (decide (List.length (z46 (qbP p0) p0.2.1 (10:Int))+List.length ([(42:UInt8)]:List UInt8)≤room)) then qia ((z46 (qbP p0) p0.2.1 (10:Int))++([(42:UInt8)]:List UInt8)) else none else qia (z46 (qbP p0) p0.2.1 (10:Int)) else none else none else bif p0.2.2.1 then bif (decide (List.length (z19 p0.1)+List.length ([(42:UInt8)]:List UInt8)≤room)) then qia (qbP p0) else none else qia (z19 p0.1) else none
def qfm (s2:List (List UInt8)):Option AV:=some (.dat (.sl .str) s2 (some (2,9)))
def quM (_n:Nat) (charset0:Int):Option AV :=
 bif (charset0==(1:Int)) then
 qfm ([([117,115,45,97,115,99,105,105]:List UInt8),([97,115,99,105,105]:List UInt8),([97,110,115,105,95,120,51,46,52,45,49,57,54,56]:List UInt8),([105,115,111,54,52,54,45,117,115]:List UInt8)]:List (List UInt8))
 else
 bif (charset0==(2:Int)) then
 qfm ([([105,115,111,45,56,56,53,57,45,49]:List UInt8),([105,115,111,95,56,56,53,57,45,49]:List UInt8),([108,97,116,105,110,49]:List UInt8),([108,49]:List UInt8)]:List (List UInt8))
 else
 bif (charset0==(3:Int)) then
 qfm ([([105,115,111,45,56,56,53,57,45,49,53]:List UInt8),([105,115,111,95,56,56,53,57,45,49,53]:List UInt8),([108,97,116,105,110,45,57]:List UInt8)]:List (List UInt8))
 else
 bif (charset0==(4:Int)) then
 qfm ([([119,105,110,100,111,119,115,45,49,50,53,50]:List UInt8),([99,112,49,50,53,50]:List UInt8)]:List (List UInt8))
 else
 bif (charset0==(5:Int)) then
 qfm ([([117,116,102,45,56]:List UInt8),([117,116,102,56]:List UInt8)]:List (List UInt8))
 else
 qfm ([]:List (List UInt8))
def qot (s2:List UInt8):Option AV:=some (.dat .str s2 none)
def quN (_n:Nat) (charset0:Int):Option AV :=
 bif (((z47 charset0).length:Int)==(0:Int)) then
 qot ([]:List UInt8)
 else
 bif ((decide (0≤(0:Int)))&&(decide ((0:Int) < (z47 charset0).length))) then
 qot ((z47 charset0).getD (0:Int).toNat ([]:List UInt8))
 else none
def qou (s6:List UInt8):Option AV:=some (db s6 (some (6,5)))
def qcP (name0:List UInt8) (n1:Int):=((z25 (name0,(n1,(true,(([]:List UInt8),())))))++([(61:UInt8)]:List UInt8))
def quO (_n:Nat) (name0:List UInt8) (n1:Int) (charset2:Int):Option AV :=
 bif ((qnF (name0,(n1,(true,(([]:List UInt8),())))))&&true) then bif (decide (List.length (z25 (name0,(n1,(true,(([]:List UInt8),())))))+List.length ([(61:UInt8)]:List UInt8)≤room)) then bif (decide ((0:Int) < n1)) then qou (qcP name0 n1) else bif (decide (List.length (qcP name0 n1)+List.length (z26 charset2)≤room)) then bif (decide (List.length ((qcP name0 n1)++(z26 charset2))+List.length ([39,39]:List UInt8)≤room)) then qou (((qcP name0 n1)++(z26 charset2))++([39,39]:List UInt8)) else none else none else none else none
def qkx (s30:Bool) (s31:List UInt8) (s32:List (List UInt8)) (s33:List UInt8) (s34:Int):Option AV:=some (.tup [(.tup []),.bad,(.pbox (.leaf .bool) s30 none),(.pbox (.osl 5 .byte) s31 none),(.pbox (.psl 22 (.osl 5 .byte)) s32 none),(.pbox (.leaf (.sl .byte)) s33 none),(.pbox (.leaf (.int .i64)) s34 none)])
def quP (_n:Nat) (u0:List UInt8) (x1:Bool) (x2:List UInt8) (x3:List (List UInt8)) (x4:List UInt8) (x5:Int):Option AV :=
 bif (!x1) then
 bif (decide ((74:Int) < (IntKind.wrap .i64 ((x2.length:Int)+(u0.length:Int))))) then
 bif (decide (x3.length+List.length ([x2]:List (List UInt8))≤room)) then
 bif ((qec x4 ((x3++([x2]:List (List UInt8))).length:Int) x5)&&true) then
 bif (decide (List.length (z11 x4 ((x3++([x2]:List (List UInt8))).length:Int) x5)+u0.length≤room)) then
 qkx false ((z11 x4 ((x3++([x2]:List (List UInt8))).length:Int) x5)++u0) (x3++([x2]:List (List UInt8))) x4 x5
 else none
 else none
 else none
 else
 bif (decide (x2.length+u0.length≤room)) then
 qkx false (x2++u0) x3 x4 x5
 else none
 else
 bif (decide (x2.length+u0.length≤room)) then
 qkx false (x2++u0) x3 x4 x5
 else none
def qsr (s6:List (List UInt8)):Option AV:=some (.dat (.sl (.sl .byte)) s6 none)
def qZ (s17:List (List UInt8)) (s19:Int):=(s17.getD s19.toNat ([]:List UInt8))
def qdD (k0:List (List UInt8)→List UInt8→Option AV) (next:List UInt8→Int→List (List UInt8)→List UInt8→Bool→List (List UInt8)→Int→Int→Option AV) (_n:Nat) (name3:List UInt8) (charset4:Int) (out7:List (List UInt8)) (now8:List UInt8) (empty9:Bool) (s17:List (List UInt8)) (s18:Int) (s19:Int):Option AV :=
 bif (decide (s19 < s18)) then bif ((decide (0≤s19))&&(decide (s19 < s17.length))) then bif (qlx (qZ s17 s19) empty9 now8 out7 name3 charset4) then next ((z28 (qZ s17 s19) empty9 now8 out7 name3 charset4).2.2.2.1) ((z28 (qZ s17 s19) empty9 now8 out7 name3 charset4).2.2.2.2) ((z28 (qZ s17 s19) empty9 now8 out7 name3 charset4).2.2.1) ((z28 (qZ s17 s19) empty9 now8 out7 name3 charset4).2.1) ((z28 (qZ s17 s19) empty9 now8 out7 name3 charset4).1) s17 s18 (IntKind.wrap .i64 (s19+1)) else none else none else k0 out7 now8
def qiV (k0:List (List UInt8)→List UInt8→Option AV):Nat→List UInt8→Int→List (List UInt8)→List UInt8→Bool→List (List UInt8)→Int→Int→Option AV
 | 0=>fun _ _ _ _ _ _ _ _=>none
 | n+1=>qdD k0 (qiV k0 n) n
def qdE (_n:Nat) (out7:List (List UInt8)) (now8:List UInt8):Option AV :=
 bif (decide (out7.length+List.length ([now8]:List (List UInt8))≤room)) then
 qsr (out7++([now8]:List (List UInt8)))
 else none
def qrB (n:Nat) (name0:List UInt8) (charset1:Int) (l2:List (List UInt8)):Option AV :=
 bif ((qec name0 (0:Int) charset1)&&true) then
 qiV (qdE n) n name0 charset1 ([]:List (List UInt8)) (z11 name0 (0:Int) charset1) true l2 (l2.length:Int) (0:Int)
 else none
def qlF (s4:List (List UInt8)) (s5:Int):Option AV:=some (.tup [(.dat (.sl (.sl .byte)) s4 none),(dc s5)])
def qgT (t1:List Int):=(z12 (z10 ((z9 t1).1) t1) ([]:List UInt8))
def z5_sh (_n:Nat) (name0:List UInt8) (t1:List Int):Option AV :=
 bif ((z7_ok name0 t1)&&true) then bif ((z7 name0 t1) != (0:Int)) then qlF ([]:List (List UInt8)) (z7 name0 t1) else bif ((z8_ok name0 t1)&&true) then bif ((z8 name0 t1).2) then qlF ([((z8 name0 t1).1)]:List (List UInt8)) (0:Int) else bif ((z9_ok t1)&&true) then bif (((z9 t1).2) != (0:Int)) then qlF ([]:List (List UInt8)) ((z9 t1).2) else bif ((qrl ((z9 t1).1) t1)&&true) then bif ((qec name0 (-1:Int) ((z9 t1).1))&&true) then bif ((qla (z10 ((z9 t1).1) t1) ([]:List UInt8))&&true) then bif (decide (List.length (z11 name0 (-1:Int) ((z9 t1).1))+List.length (qgT t1)≤room)) then bif (decide ((((z11 name0 (-1:Int) ((z9 t1).1))++(qgT t1)).length:Int)≤(74:Int))) then qlF ([((z11 name0 (-1:Int) ((z9 t1).1))++(qgT t1))]:List (List UInt8)) (0:Int) else bif ((qly name0 ((z9 t1).1) (z10 ((z9 t1).1) t1))&&true) then qlF (z13 name0 ((z9 t1).1) (z10 ((z9 t1).1) t1)) (0:Int) else none else none else none else none else none else none else none else none
def qwZ (s4:List UInt8) (s5:Int):Option AV:=some (.tup [(da s4),(dc s5)])
def qfV (k0:Int→List UInt8→Option AV) (next:Int→List UInt8→List (List UInt8)→Int→Int→Option AV) (_n:Nat) (e7:Int) (out8:List UInt8) (s17:List (List UInt8)) (s18:Int) (s19:Int):Option AV :=
 bif (decide (s19 < s18)) then
 bif ((decide (0≤s19))&&(decide (s19 < s17.length))) then
 bif (decide (out8.length+List.length ([59,13,10,32]:List UInt8)≤room)) then
 bif (decide (List.length (out8++([59,13,10,32]:List UInt8))+List.length (s17.getD s19.toNat ([]:List UInt8))≤room)) then
 next e7 ((out8++([59,13,10,32]:List UInt8))++(s17.getD s19.toNat ([]:List UInt8))) s17 s18 (IntKind.wrap .i64 (s19+1))
 else none
 else none
 else none
 else
 k0 e7 out8
def z6_l4 (k0:Int→List UInt8→Option AV):Nat→Int→List UInt8→List (List UInt8)→Int→Int→Option AV
 | 0=>fun _ _ _ _ _=>none
 | n+1=>qfV k0 (z6_l4 k0 n) n
def qfW (_n:Nat) (e7:Int) (out8:List UInt8):Option AV :=
 qwZ out8 e7
def z6_sh (n:Nat) (name0:List UInt8) (t1:List Int):Option AV :=
 bif ((z5_ok name0 t1)&&true) then
 z6_l4 (qfW n) n ((z5 name0 t1).2) ([]:List UInt8) ((z5 name0 t1).1) (((z5 name0 t1).1).length:Int) (0:Int)
 else none
def qiW (s0:Bool):Option AV:=some (df s0)
def qgU:=(z5 ([(97:UInt8)]:List UInt8) ([(233:Int)]:List Int))
def z4_sh (_n:Nat):Option AV :=
 bif ((z5_ok ([(97:UInt8)]:List UInt8) ([(233:Int)]:List Int))&&true) then bif ((z6_ok ([(97:UInt8)]:List UInt8) ([(120:Int),(32:Int)]:List Int))&&true) then bif ((z5_ok ([(97:UInt8),(32:UInt8),(98:UInt8)]:List UInt8) ([]:List Int))&&true) then bif ((((qgU).1).length:Int)==(1:Int)) then bif ((decide (0≤(0:Int)))&&(decide ((0:Int) < ((qgU).1).length))) then bif ((((qgU).1).getD (0:Int).toNat ([]:List UInt8))==([97,42,61,105,115,111,45,56,56,53,57,45,49,39,39,37,69,57]:List UInt8)) then bif (((qgU).2)==(0:Int)) then bif (((z6 ([(97:UInt8)]:List UInt8) ([(120:Int),(32:Int)]:List Int)).1)==([59,13,10,32,97,61,34,120,32,34]:List UInt8)) then bif (((z6 ([(97:UInt8)]:List UInt8) ([(120:Int),(32:Int)]:List Int)).2)==(0:Int)) then qiW (((z5 ([(97:UInt8),(32:UInt8),(98:UInt8)]:List UInt8) ([]:List Int)).2)==(13:Int)) else qiW false else qiW false else qiW false else qiW false else none else qiW false else none else none else none
def qfC (s4:Bool):Option AV:=some (df s4)
def qdF (ret:Bool→Option AV) (k2:List (List UInt8)→List (List UInt8)→Int→Int→Option AV) (next:List (List UInt8)→List (List UInt8)→Int→Int→List UInt8→Int→Int→Option AV) (_n:Nat) (l5:List (List UInt8)) (s34:List (List UInt8)) (s35:Int) (s36:Int) (s48:List UInt8) (s49:Int) (s50:Int):Option AV :=
 bif (decide (s50 < s49)) then
 bif ((decide (0≤s50))&&(decide (s50 < s48.length))) then
 bif (decide ((s48.getD s50.toNat (0:UInt8)) < (32:UInt8))) then
 ret false
 else
 bif (decide ((126:UInt8) < (s48.getD s50.toNat (0:UInt8)))) then
 ret false
 else
 next l5 s34 s35 s36 s48 s49 (IntKind.wrap .i64 (s50+1))
 else none
 else
 k2 l5 s34 s35 s36
def qgV (ret:Bool→Option AV) (k2:List (List UInt8)→List (List UInt8)→Int→Int→Option AV):Nat→List (List UInt8)→List (List UInt8)→Int→Int→List UInt8→Int→Int→Option AV
 | 0=>fun _ _ _ _ _ _ _=>none
 | n+1=>qdF ret k2 (qgV ret k2 n) n
def qdG (_ret:Bool→Option AV) (_k0:List (List UInt8)→Option AV) (next:List (List UInt8)→List (List UInt8)→Int→Int→Option AV) (_n:Nat) (l5:List (List UInt8)) (s34:List (List UInt8)) (s35:Int) (s36:Int):Option AV :=
 next l5 s34 s35 (IntKind.wrap .i64 (s36+1))
def qfn (ret:Bool→Option AV) (k0:List (List UInt8)→Option AV) (next:List (List UInt8)→List (List UInt8)→Int→Int→Option AV) (n:Nat) (l5:List (List UInt8)) (s34:List (List UInt8)) (s35:Int) (s36:Int):Option AV :=
 bif (decide (s36 < s35)) then
 bif ((decide (0≤s36))&&(decide (s36 < s34.length))) then
 bif (decide ((74:Int) < ((s34.getD s36.toNat ([]:List UInt8)).length:Int))) then
 ret false
 else
 bif (((s34.getD s36.toNat ([]:List UInt8)).length:Int)==(0:Int)) then
 ret false
 else
 qgV ret (qdG ret k0 next n) n l5 s34 s35 s36 (s34.getD s36.toNat ([]:List UInt8)) ((s34.getD s36.toNat ([]:List UInt8)).length:Int) (0:Int)
 else none
 else
 k0 l5
def z3_l7 (ret:Bool→Option AV) (k0:List (List UInt8)→Option AV):Nat→List (List UInt8)→List (List UInt8)→Int→Int→Option AV
 | 0=>fun _ _ _ _=>none
 | n+1=>qfn ret k0 (z3_l7 ret k0 n) n
def qfX (_n:Nat) (l5:List (List UInt8)):Option AV :=
 bif (decide ((0:Int) < (l5.length:Int))) then
 qfC z4
 else
 qfC false
def z3_sh (n:Nat) (name0:List UInt8) (t1:List Int):Option AV :=
 bif (decide ((100:Int) < (name0.length:Int))) then
 qfC z4
 else
 bif (decide ((100:Int) < (t1.length:Int))) then
 qfC z4
 else
 bif ((z5_ok name0 t1)&&true) then
 bif (((z5 name0 t1).2) != (0:Int)) then
 bif ((((z5 name0 t1).1).length:Int)==(0:Int)) then
 qfC z4
 else
 qfC false
 else
 z3_l7 qfC (qfX n) n ((z5 name0 t1).1) ((z5 name0 t1).1) (((z5 name0 t1).1).length:Int) (0:Int)
 else none
end
end Go.Av
