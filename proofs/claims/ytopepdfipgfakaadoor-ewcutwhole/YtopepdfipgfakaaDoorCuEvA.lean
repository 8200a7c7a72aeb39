import Derived.Test.YtopepdfipgfakaaDoorCwP
import Derived.Test.YtopepdfipgfakaaDoorCuC
import Derived.Test.YtopepdfipgfakaaDoorProg
import Derived.KernelRfl
namespace Go.Av
set_option linter.unusedSimpArgs false
noncomputable section
open Go.Proofs
set_option maxRecDepth 100000
set_option linter.unusedVariables false
def tis:List (TypeId×TI):=[(2,⟨some (.int .i64),8,0⟩),
 (3,⟨some (.int .i64),8,0⟩),
 (4,⟨some .bool,1,0⟩),
 (5,⟨some .byte,1,0⟩),
 (6,⟨some .byte,1,0⟩),
 (7,⟨some (.pair (.int .i64) (.pair (.int .i64) (.pair .bool (.pair .byte .unit)))),24,0⟩),
 (8,⟨some (.pair (.int .i64) (.pair (.int .i64) (.pair .bool (.pair .byte .unit)))),24,0⟩),
 (9,⟨some .str,16,0⟩),
 (10,⟨some .str,16,0⟩),
 (11,⟨some .str,16,0⟩),
 (12,⟨some (.int .u64),8,0⟩),
 (13,⟨some (.pair .str (.pair (.int .u64) .unit)),24,0⟩),
 (14,⟨some (.pair .str (.pair (.int .u64) .unit)),24,0⟩),
 (21,⟨some (.int .i32),4,0⟩),
 (22,⟨some (.arr 3 (.int .i64)),24,3⟩),
 (23,⟨some (.sl (.int .i32)),24,21⟩),
 (25,⟨some (.sl (.sl (.int .i32))),24,23⟩),
 (26,⟨some (.int .i64),8,0⟩),
 (31,⟨some (.sl .byte),24,5⟩),
 (34,⟨some (.sl (.sl .byte)),24,31⟩),
 (70,⟨some .unit,0,0⟩),
 (71,⟨some .unit,0,0⟩),
 (72,⟨some .unit,0,0⟩),
 (77,⟨some (.int .u64),8,0⟩),
 (86,⟨some (.sl .str),24,9⟩),
 (90,⟨some (.int .u32),4,0⟩),
 (92,⟨some (.int .u64),8,0⟩),
 (94,⟨some (.pair .byte (.pair (.int .i32) .unit)),8,0⟩),
 (95,⟨some (.pair .byte (.pair (.int .i32) .unit)),8,0⟩),
 (96,⟨some (.arr 8 (.pair .byte (.pair (.int .i32) .unit))),64,95⟩),
 (104,⟨some (.arr 32 .byte),32,5⟩),
 (105,⟨some (.arr 64 .byte),64,5⟩),
 (107,⟨some (.arr 32 (.int .i32)),128,21⟩),
 (120,⟨some .byte,1,0⟩),
 (121,⟨some .byte,1,0⟩),
 (124,⟨some (.int .i32),4,0⟩),
 (125,⟨some (.int .i32),4,0⟩)]
theorem qgc:(tis.all fun p=>tyB Tryd.prog (tiOf tis) p.1)=true:=by kernel_rfl
theorem follows:Tryd.prog.follows .mixedOrders=true:=by kernel_rfl
abbrev FnL:=List (FuncId×(List AV→Bool×AV))
abbrev CutL:=Nat→Option (List Nat)
def eQ (l:FnL) (nt:Nat) (r:Option (List Nat)) (a b:CutL) (p:Nat→Option PSh):EnvP:=⟨⟨tiOf tis,fnsOf l,cnsOf [],[],nt,a,b,r⟩,p,fun _=>none,fun _=>[],fun _=>none,fun _=>none,fun _=>none,fun _=>none⟩
def cO (f:Func):Code:=f.body.getD .skip
def nC:CutL:=fun _=>none
def nP:Nat→Option PSh:=fun _=>none
theorem sQ {E:EnvP} {l:FnL} {nt:Nat} {r:Option (List Nat)} {a b:CutL} {p:Nat→Option PSh} {f:FuncId} {fn:Func} {c:Code} {spec:List AV→Bool×AV} (hE:E=eQ l nt r a b p) (hl:∀ w S,Gc w S→∀ f,qao Tryd.prog f (fnsOf l f) w S)
 (hf:Tryd.prog.funcs[f]? = some fn) (hspec:∀ avs r',spec avs=(true,r')→∃ n v,evFnP E n c fn.results avs=some v∧(v=r'∨v.strip=r')) (hb:fn.body=some c:=by kernel_rfl) (hnt:fn.ntmps=nt:=by kernel_rfl) (hname:(fn.name == "runtime.NumGoroutine")=false:=by kernel_rfl):qg Gc Tryd.prog f spec:=by
 subst hE
 exact qY qbe (E:=eQ l nt r a b p) (qD rfl qgc) (fun w S hg=>⟨⟨hl w S hg,fun f sp h=>qdr f sp h w S⟩,qby w S hg,(fun _ _ h=>by cases h),(fun f sp h=>qiM f sp h),(fun f it h=>qiN f it h),(fun t kt vt h=>qdX t kt vt h)⟩) follows hf hb hnt hname hspec
def s_z33:List AV→Bool×AV
 | [.dat (.int .i64) a0 _]=>(true,(.dat (.int .i64) (z33 a0) none))
 | _=>(false,.bad)
def s_z62:List AV→Bool×AV
 | [.dat (.int .i32) a0 _]=>(true,(.dat .bool (z62 a0) none))
 | _=>(false,.bad)
def s_z72:List AV→Bool×AV
 | []=>(true,(.dat (.arr 8 (.pair .byte (.pair (.int .i32) .unit))) z72 none))
 | _=>(false,.bad)
def s_z53:List AV→Bool×AV
 | [.dat (.int .i32) a0 _]=>(true,(.tup [(.dat .byte ((z53 a0).1) none),(.dat .bool ((z53 a0).2) none)]))
 | _=>(false,.bad)
def s_z63:List AV→Bool×AV
 | [.dat (.int .i32) a0 _]=>(true,(.dat .bool (z63 a0) none))
 | _=>(false,.bad)
def s_z73:List AV→Bool×AV
 | [.dat (.sl (.int .i32)) a0 _,.dat (.int .i32) a1 _]=>(qhM a0 a1,(.dat (.int .i64) (z73 a0 a1) none))
 | _=>(false,.bad)
def s_z74:List AV→Bool×AV
 | []=>(true,(.dat (.sl (.int .i32)) z74 none))
 | _=>(false,.bad)
def s_z55:List AV→Bool×AV
 | [.dat (.int .i32) a0 _]=>(true,(.tup [(.dat .byte ((z55 a0).1) none),(.dat .bool ((z55 a0).2) none)]))
 | _=>(false,.bad)
def s_z64:List AV→Bool×AV
 | [.dat (.int .i32) a0 _]=>(true,(.dat .bool (z64 a0) none))
 | _=>(false,.bad)
def s_z79:List AV→Bool×AV
 | [.dat (.int .i32) a0 _]=>(true,(.dat .bool (z79 a0) none))
 | _=>(false,.bad)
def s_z65:List AV→Bool×AV
 | [.dat (.int .i32) a0 _]=>(true,(.dat .bool (z65 a0) none))
 | _=>(false,.bad)
def s_z47:List AV→Bool×AV
 | [.dat (.int .i64) a0 _,.dat (.int .i32) a1 _]=>(true,(.dat .bool (z47 a0 a1) none))
 | _=>(false,.bad)
def s_z50:List AV→Bool×AV
 | [.dat (.int .i64) a0 _,.dat (.sl (.int .i32)) a1 _]=>(qse a0 a1,(.dat (.int .i64) (z50 a0 a1) none))
 | _=>(false,.bad)
def s_z34:List AV→Bool×AV
 | [.dat (.int .i64) a0 _,.dat (.sl (.int .i32)) a1 _]=>(qsf a0 a1,(.dat .bool (z34 a0 a1) none))
 | _=>(false,.bad)
def s_z81:List AV→Bool×AV
 | [.dat (.int .i32) a0 _]=>(true,(.dat .bool (z81 a0) none))
 | _=>(false,.bad)
def s_z80:List AV→Bool×AV
 | [.dat (.sl (.int .i32)) a0 _,.fn 81 []]=>(qrU a0,(.dat (.int .i64) (z80 a0) none))
 | _=>(false,.bad)
def s_z68:List AV→Bool×AV
 | [.dat (.sl (.int .i32)) a0 _]=>(qrV a0,(.dat (.int .i64) (z68 a0) none))
 | _=>(false,.bad)
def s_z51:List AV→Bool×AV
 | [.dat (.sl (.int .i32)) a0 _]=>(qrW a0,(.dat .bool (z51 a0) none))
 | _=>(false,.bad)
def s_z69:List AV→Bool×AV
 | [.dat (.int .i32) a0 _]=>(true,(.dat (.int .i64) (z69 a0) none))
 | _=>(false,.bad)
def s_z70:List AV→Bool×AV
 | [.dat (.sl .byte) a0 _]=>(qoB a0,(.dat (.sl .byte) (z70 a0) (some (0,5))))
 | _=>(false,.bad)
def s_z71:List AV→Bool×AV
 | [.dat (.int .i64) a0 _]=>(true,(.dat .byte (z71 a0) none))
 | _=>(false,.bad)
def s_z52:List AV→Bool×AV
 | [.dat (.sl .byte) a0 _,.dat (.int .i32) a1 _]=>(qrX a0 a1,(.tup [(.dat (.sl .byte) ((z52 a0 a1).1) none),(.dat (.int .i64) ((z52 a0 a1).2) none)]))
 | _=>(false,.bad)
def s_z35:List AV→Bool×AV
 | [.dat (.sl (.int .i32)) a0 _]=>(qsd a0,(.tup [(.dat (.sl .byte) ((z35 a0).1) none),(.dat (.int .i64) ((z35 a0).2) none)]))
 | _=>(false,.bad)
def s_z36:List AV→Bool×AV
 | [.dat (.sl (.int .i32)) a0 _]=>(qsb a0,(.tup [(.dat (.sl .byte) ((z36 a0).1) none),(.dat (.int .i64) ((z36 a0).2) none)]))
 | _=>(false,.bad)
def s_z54:List AV→Bool×AV
 | [.dat (.sl (.int .i32)) a0 _]=>(qrY a0,(.dat (.int .i64) (z54 a0) none))
 | _=>(false,.bad)
def s_z37:List AV→Bool×AV
 | [.dat (.sl (.int .i32)) a0 _]=>(qsc a0,(.tup [(.dat (.sl .byte) ((z37 a0).1) none),(.dat (.int .i64) ((z37 a0).2) none)]))
 | _=>(false,.bad)
def s_z56:List AV→Bool×AV
 | [.dat (.sl (.int .i32)) a0 _]=>(qrZ a0,(.dat (.int .i64) (z56 a0) none))
 | _=>(false,.bad)
def s_z38:List AV→Bool×AV
 | [.dat (.sl (.int .i32)) a0 _]=>(qsa a0,(.tup [(.dat (.sl .byte) ((z38 a0).1) none),(.dat (.int .i64) ((z38 a0).2) none)]))
 | _=>(false,.bad)
def s_z23:List AV→Bool×AV
 | [.dat (.int .i64) a0 _,.dat (.sl (.int .i32)) a1 _]=>(qlK a0 a1,(.tup [(.dat (.sl .byte) ((z23 a0 a1).1) none),(.dat (.int .i64) ((z23 a0 a1).2) none)]))
 | _=>(false,.bad)
def s_z42:List AV→Bool×AV
 | [.dat (.int .i64) a0 _]=>(true,(.dat (.int .i64) (z42 a0) none))
 | _=>(false,.bad)
def s_z86:List AV→Bool×AV
 | [.dat .byte a0 _]=>(true,(.dat (.int .i64) (z86 a0) none))
 | _=>(false,.bad)
def s_z90:List AV→Bool×AV
 | [.dat .str a0 _,.dat .byte a1 _]=>(true,(.dat (.int .i64) (z90 a0 a1) none))
 | _=>(false,.bad)
def s_z89:List AV→Bool×AV
 | [.dat .str a0 _,.dat .byte a1 _]=>(true,(.dat (.int .i64) (z89 a0 a1) none))
 | _=>(false,.bad)
def s_z88:List AV→Bool×AV
 | [.dat .str a0 _,.dat .byte a1 _]=>(true,(.dat (.int .i64) (z88 a0 a1) none))
 | _=>(false,.bad)
def s_z87:List AV→Bool×AV
 | [.dat .str a0 _,.dat .byte a1 _]=>(true,(.dat .bool (z87 a0 a1) none))
 | _=>(false,.bad)
def s_z82:List AV→Bool×AV
 | [.dat .byte a0 _]=>(true,(.dat (.int .i64) (z82 a0) none))
 | _=>(false,.bad)
def s_z75:List AV→Bool×AV
 | [.dat .byte a0 _,.dat (.int .i64) a1 _]=>(true,(.dat .bool (z75 a0 a1) none))
 | _=>(false,.bad)
def s_z57:List AV→Bool×AV
 | [.dat .byte a0 _]=>(true,(.dat (.int .i64) (z57 a0) none))
 | _=>(false,.bad)
def s_z43:List AV→Bool×AV
 | [.dat (.sl .byte) a0 _]=>(qfe a0,(.dat (.int .i64) (z43 a0) none))
 | _=>(false,.bad)
def s_z25:List AV→Bool×AV
 | [.iface 71 (.dat .unit () none),.dat (.sl .byte) a1 _]=>(qho a1,.tup [.dat (.int .i64) (z42 ((List.length a1:Nat):Int)) none,.dat .bool true none])
 | [.iface 72 (.dat .unit () none),.dat (.sl .byte) a1 _]=>(qho a1,.tup [.dat (.int .i64) (z43 a1) none,.dat .bool true none])
 | [.nilIface,.dat (.sl .byte) a1 _]=>(true,.tup [.dat (.int .i64) (0:Int) none,.dat .bool false none])
 | _=>(false,.bad)
def s_z25_v0:List AV→Bool×AV
 | [.iface 71 (.dat .unit () none),.dat (.sl .byte) a1 _]=>(true,.tup [.dat (.int .i64) (z42 ((List.length a1:Nat):Int)) none,.dat .bool true none])
 | _=>(false,.bad)
def s_z25_v1:List AV→Bool×AV
 | [.iface 72 (.dat .unit () none),.dat (.sl .byte) a1 _]=>(qho a1,.tup [.dat (.int .i64) (z43 a1) none,.dat .bool true none])
 | _=>(false,.bad)
def s_z25_v2:List AV→Bool×AV
 | [.nilIface,.dat (.sl .byte) a1 _]=>(true,.tup [.dat (.int .i64) (0:Int) none,.dat .bool false none])
 | _=>(false,.bad)
def s_z44:List AV→Bool×AV
 | [.dat .unit a0 _]=>(true,(.dat (.int .i64) (z44 a0) none))
 | _=>(false,.bad)
def s_z45:List AV→Bool×AV
 | [.dat .unit a0 _]=>(true,(.dat (.int .i64) (z45 a0) none))
 | _=>(false,.bad)
def s_z26:List AV→Bool×AV
 | [.dat (.int .i64) a0 _]=>(true,z26 a0)
 | _=>(false,.bad)
def s_z16:List AV→Bool×AV
 | [.dat (.int .i64) a0 _,.dat (.int .i64) a1 _,.dat (.sl (.int .i32)) a2 _]=>(qhp a0 a1 a2,(.tup [(.dat (.int .i64) ((z16 a0 a1 a2).1) none),(.dat (.int .i64) ((z16 a0 a1 a2).2) none)]))
 | _=>(false,.bad)
def s_z27:List AV→Bool×AV
 | [.dat (.int .i64) a0 _]=>(true,(.dat .bool (z27 a0) none))
 | _=>(false,.bad)
def s_z39:List AV→Bool×AV
 | [.dat (.int .i64) a0 _]=>(true,(.dat .str (z39 a0) none))
 | _=>(false,.bad)
def s_z61:List AV→Bool×AV
 | [.dat (.int .i64) a0 _]=>(true,(.dat (.sl .str) (z61 a0) (some (2,9))))
 | _=>(false,.bad)
def s_z46:List AV→Bool×AV
 | [.dat (.int .i64) a0 _]=>(true,(.dat .str (z46 a0) none))
 | _=>(false,.bad)
def s_z28:List AV→Bool×AV
 | [.dat (.int .i64) a0 _,.dat (.int .i64) a1 _]=>(true,(.dat .str (z28 a0 a1) none))
 | _=>(false,.bad)
def s_z17:List AV→Bool×AV
 | [.dat (.int .i64) a0 _]=>(true,(.dat (.int .i64) (z17 a0) none))
 | _=>(false,.bad)
def s_z10:List AV→Bool×AV
 | [.dat (.int .i64) a0 _,.dat (.int .i64) a1 _,.dat (.sl (.int .i32)) a2 _]=>(qlv a0 a1 a2,(.tup [(.dat (.int .i64) ((z10 a0 a1 a2).1) none),(.dat (.int .i64) ((z10 a0 a1 a2).2) none)]))
 | _=>(false,.bad)
def s_z29:List AV→Bool×AV
 | [.dat (.int .i64) a0 _,.dat (.int .i64) a1 _,.dat (.sl (.int .i32)) a2 _,.dat (.int .i64) a3 _]=>(qra a0 a1 a2 a3,(.dat .bool (z29 a0 a1 a2 a3) none))
 | _=>(false,.bad)
def s_z19:List AV→Bool×AV
 | [.dat (.int .i64) a0 _,.dat (.int .i64) a1 _,.dat (.sl (.int .i32)) a2 _,.dat (.int .i64) a3 _]=>(qrb a0 a1 a2 a3,(.dat (.int .i64) (z19 a0 a1 a2 a3) none))
 | _=>(false,.bad)
def s_z18:List AV→Bool×AV
 | [.abs s V x,.pbox (.leaf (.sl (.int .i32))) b0 none,.pbox (.leaf (.int .i64)) b1 none,.pbox (.leaf (.int .i64)) b2 none,.pbox (.leaf (.int .i64)) b3 none]=>((z18 (fun x a0=>V.spec x [⟨(.sl (.int .i32)),a0⟩]) x b0 b1 b2 b3).1,.tup [.tup [],.abs s V (z18 (fun x a0=>V.spec x [⟨(.sl (.int .i32)),a0⟩]) x b0 b1 b2 b3).2.1,.pbox (.leaf (.sl (.int .i32))) ((z18 (fun x a0=>V.spec x [⟨(.sl (.int .i32)),a0⟩]) x b0 b1 b2 b3).2.2.1) none,.pbox (.leaf (.int .i64)) ((z18 (fun x a0=>V.spec x [⟨(.sl (.int .i32)),a0⟩]) x b0 b1 b2 b3).2.2.2.1) none,.pbox (.leaf (.int .i64)) ((z18 (fun x a0=>V.spec x [⟨(.sl (.int .i32)),a0⟩]) x b0 b1 b2 b3).2.2.2.2.1) none,.pbox (.leaf (.int .i64)) ((z18 (fun x a0=>V.spec x [⟨(.sl (.int .i32)),a0⟩]) x b0 b1 b2 b3).2.2.2.2.2) none])
 | _=>(false,.bad)
def qxh:Iter:=⟨[.leaf (.sl (.int .i32)),.leaf (.int .i64),.leaf (.int .i64),.leaf (.int .i64)],fun s spec x y=>((z18 (fun x a0=>spec x [⟨(.sl (.int .i32)),a0⟩]) x y.1 y.2.1 y.2.2.1 y.2.2.2.1).1,(z18 (fun x a0=>spec x [⟨(.sl (.int .i32)),a0⟩]) x y.1 y.2.1 y.2.2.1 y.2.2.2.1).2.1)⟩
def s_z11:List AV→Bool×AV
 | [.dat (.int .i64) a0 _,.dat (.int .i64) a1 _,.dat (.sl (.int .i32)) a2 _,.dat (.int .i64) a3 _]=>(true,(.abs (qcS [.leaf (.sl (.int .i32)),.leaf (.int .i64),.leaf (.int .i64),.leaf (.int .i64)]) (clInv 18 [.leaf (.sl (.int .i32)),.leaf (.int .i64),.leaf (.int .i64),.leaf (.int .i64)]) (a2,(a0,(a1,(a3,()))))))
 | _=>(false,.bad)
def s_z12:List AV→Bool×AV
 | [.dat (.sl (.int .i32)) a0 _]=>(qtZ a0,(.dat (.sl (.int .i32)) (z12 a0) none))
 | _=>(false,.bad)
def s_z5:List AV→Bool×AV
 | [.dat (.int .i64) a0 _,.dat (.int .i64) a1 _,.dat (.sl (.int .i32)) a2 _,.dat (.int .i64) a3 _]=>(z5_ok a0 a1 a2 a3,(.tup [(.dat (.sl (.sl (.int .i32))) ((z5 a0 a1 a2 a3).1) none),(.dat (.int .i64) ((z5 a0 a1 a2 a3).2) none)]))
 | _=>(false,.bad)
def s_z30:List AV→Bool×AV
 | [.dat (.int .i32) a0 _]=>(true,(.dat (.int .i64) (z30 a0) none))
 | _=>(false,.bad)
def s_z67:List AV→Bool×AV
 | [.dat (.int .u64) a0 _]=>(qtW a0,(.dat (.int .i64) (z67 a0) none))
 | _=>(false,.bad)
def s_z48:List AV→Bool×AV
 | [.dat (.int .u64) a0 _]=>(qrc a0,(.dat (.int .i64) (z48 a0) none))
 | _=>(false,.bad)
def s_z31:List AV→Bool×AV
 | [.dat (.int .i64) a0 _]=>(qrd a0,(.dat (.int .i64) (z31 a0) none))
 | _=>(false,.bad)
def s_z21:List AV→Bool×AV
 | [.dat (.sl (.int .i32)) a0 _]=>(qre a0,(.tup [(.dat (.int .i64) ((z21 a0).1) none),(.dat (.int .i64) ((z21 a0).2) none)]))
 | _=>(false,.bad)
def s_z49:List AV→Bool×AV
 | [.dat (.int .i64) a0 _,.dat (.int .i64) a1 _,.dat (.sl (.int .i32)) a2 _]=>(qlw a0 a1 a2,(.dat (.int .i64) (z49 a0 a1 a2) none))
 | _=>(false,.bad)
def s_z32:List AV→Bool×AV
 | [.dat (.int .i64) a0 _,.dat (.sl (.int .i32)) a1 _]=>(qqY a0 a1,(.dat (.int .i64) (z32 a0 a1) none))
 | _=>(false,.bad)
def s_z22:List AV→Bool×AV
 | [.dat (.int .i64) a0 _,.dat (.sl (.int .i32)) a1 _]=>(qqZ a0 a1,(.tup [(.dat (.int .i64) ((z22 a0 a1).1) none),(.dat (.int .i64) ((z22 a0 a1).2) none)]))
 | _=>(false,.bad)
def s_z14:List AV→Bool×AV
 | [.dat (.sl (.int .i32)) a0 _]=>(qrf a0,(.tup [(.dat (.int .i64) ((z14 a0).1) none),(.dat (.int .i64) ((z14 a0).2.1) none),(.dat (.int .i64) ((z14 a0).2.2) none)]))
 | _=>(false,.bad)
def s_z83:List AV→Bool×AV
 | [.dat (.int .i64) a0 _]=>(qfd a0,(.dat .byte (z83 a0) none))
 | _=>(false,.bad)
def s_z76:List AV→Bool×AV
 | [.dat .byte a0 _]=>(true,(.dat (.sl .byte) (z76 a0) (some (2,5))))
 | _=>(false,.bad)
def s_z58:List AV→Bool×AV
 | [.dat (.sl .byte) a0 _,.dat .byte a1 _,.dat .byte a2 _]=>(qrT a0 a1 a2,(.dat (.sl .byte) (z58 a0 a1 a2) (some (6,5))))
 | _=>(false,.bad)
def s_z40:List AV→Bool×AV
 | [.dat (.sl .byte) a0 _]=>(qsg a0,(.dat (.sl .byte) (z40 a0) (some (2,5))))
 | _=>(false,.bad)
def s_z78:List AV→Bool×AV
 | [.dat (.int .i64) a0 _]=>(true,(.dat .byte (z78 a0) none))
 | _=>(false,.bad)
def s_z60:List AV→Bool×AV
 | [.dat (.sl .byte) a0 _]=>(qxZ a0,(.dat (.sl .byte) (z60 a0) (some (2,5))))
 | _=>(false,.bad)
def s_z41:List AV→Bool×AV
 | [.dat (.sl .byte) a0 _]=>(qwu a0,(.dat (.sl .byte) (z41 a0) none))
 | _=>(false,.bad)
def s_z24:List AV→Bool×AV
 | [.dat (.int .i64) a0 _,.dat (.int .i64) a1 _,.dat (.sl .byte) a2 _]=>(qsh a0 a1 a2,(.tup [(.dat (.sl .byte) ((z24 a0 a1 a2).1) none),(.dat (.int .i64) ((z24 a0 a1 a2).2) none)]))
 | _=>(false,.bad)
def s_z15:List AV→Bool×AV
 | [.dat (.int .i64) a0 _,.dat (.int .i64) a1 _,.dat (.sl (.int .i32)) a2 _]=>(qrg a0 a1 a2,(.tup [(.dat (.sl .byte) ((z15 a0 a1 a2).1) none),(.dat (.int .i64) ((z15 a0 a1 a2).2) none)]))
 | _=>(false,.bad)
def s_z8:List AV→Bool×AV
 | [.dat (.sl (.int .i32)) a0 _,.dat (.int .i64) a1 _]=>(z8_ok a0 a1,(.tup [(.dat (.sl (.sl .byte)) ((z8 a0 a1).1) none),(.dat (.int .i64) ((z8 a0 a1).2) none)]))
 | _=>(false,.bad)
def s_z13:List AV→Bool×AV
 | [.dat (.sl (.sl .byte)) a0 _,.dat (.sl .byte) a1 _]=>(qlx a0 a1,(.dat (.sl .byte) (z13 a0 a1) none))
 | _=>(false,.bad)
def s_z7:List AV→Bool×AV
 | [.dat (.sl (.int .i32)) a0 _,.dat (.int .i64) a1 _]=>(z7_ok a0 a1,(.tup [(.dat (.sl .byte) ((z7 a0 a1).1) none),(.dat (.int .i64) ((z7 a0 a1).2) none)]))
 | _=>(false,.bad)
def s_z9:List AV→Bool×AV
 | [.dat (.sl (.int .i32)) a0 _,.dat (.int .i64) a1 _]=>(z9_ok a0 a1,(.dat (.int .i64) (z9 a0 a1) none))
 | _=>(false,.bad)
def s_z4:List AV→Bool×AV
 | []=>(true,(.dat .bool z4 none))
 | _=>(false,.bad)
def s_z6:List AV→Bool×AV
 | [.dat (.sl (.int .i32)) a0 _,.dat (.sl (.int .i32)) a1 _]=>(z6_ok a0 a1,(.dat .bool (z6 a0 a1) none))
 | _=>(false,.bad)
def s_z3:List AV→Bool×AV
 | [.dat (.arr 3 (.int .i64)) a0 _,.dat (.sl (.int .i32)) a1 _]=>(z3_ok a0 a1,(.dat .bool (z3 a0 a1) none))
 | _=>(false,.bad)
theorem qpy:qg Gc Tryd.prog 90 s_z90:=fun w S hg vals avs r h hS ha=>by
 unfold s_z90 at h
 split at h
 ·simp only [Prod.mk.injEq,true_and] at h
  subst h
  exact qoy Tryd.func90 (by kernel_rfl) (by kernel_rfl) (by kernel_rfl) (by kernel_rfl) hS ha
 ·cases h
theorem qjs:qg Gc Tryd.prog 70 s_z70:=fun w S hg vals avs r h hS ha=>by
 unfold s_z70 at h
 split at h
 ·obtain ⟨hp,rfl⟩:=Prod.mk.inj h
  exact qoA hS ha (qw hp)
 ·cases h
theorem qpz:qg Gc Tryd.prog 67 s_z67:=fun w S hg vals avs r h hS ha=>by
 unfold s_z67 at h
 split at h
 ·obtain ⟨hp,rfl⟩:=Prod.mk.inj h
  have hp':=of_decide_eq_true hp
  exact qnE hg.2 hS ha hp'.1 hp'.2
 ·cases h
theorem qpA:qg Gc Tryd.prog 13 s_z13:=fun w S hg vals avs r h hS ha=>by
 unfold s_z13 at h
 split at h
 ·obtain ⟨hp,rfl⟩:=Prod.mk.inj h
  exact qnH hS ha hp
 ·cases h
theorem qpB:qg Gc Tryd.prog 12 s_z12:=fun w S hg vals avs r h hS ha=>by
 unfold s_z12 at h
 split at h
 ·obtain ⟨hp,rfl⟩:=Prod.mk.inj h
  exact qmX hS ha (qw hp)
 ·cases h
def E_z33:EnvP:=eQ [] 13 (some [2]) nC (fun x=>if x=0 then some [] else none) nP
def C_z33:Code:=cO Tryd.f33
def R_z33:Array ResultVar:=Tryd.f33.results
theorem qyr (n:Nat) (charset0:Int) (o0:Lab):evFnP E_z33 n C_z33 R_z33 [.dat (.int .i64) charset0 o0]=qul n charset0:=by
 kernel_rfl
theorem qjt:qg Gc Tryd.prog 33 s_z33:=by
 refine sQ (E:=E_z33) (c:=C_z33) rfl (fun w S hg=>qd) Tryd.func33 ?_
 intro avs r h
 unfold s_z33 at h
 split at h <;> cases h
 obtain ⟨n,hn⟩:=qvX _
 exact ⟨n,_,(qyr n _ _).trans hn,.inl rfl⟩
def E_z62:EnvP:=eQ [] 6 (some [2]) nC nC nP
def C_z62:Code:=cO Tryd.f62
def R_z62:Array ResultVar:=Tryd.f62.results
theorem qys (n:Nat) (c0:Int) (o0:Lab):evFnP E_z62 n C_z62 R_z62 [.dat (.int .i32) c0 o0]=qxq n c0:=by
 kernel_rfl
theorem qju:qg Gc Tryd.prog 62 s_z62:=by
 refine sQ (E:=E_z62) (c:=C_z62) rfl (fun w S hg=>qd) Tryd.func62 ?_
 intro avs r h
 unfold s_z62 at h
 split at h <;> cases h
 obtain ⟨n,hn⟩:=qvU _
 exact ⟨n,_,(qys n _ _).trans hn,.inl rfl⟩
def E_z72:EnvP:=eQ [] 10 (some [0]) nC nC nP
def C_z72:Code:=cO Tryd.f72
def R_z72:Array ResultVar:=Tryd.f72.results
theorem qyt (n:Nat)  : evFnP E_z72 n C_z72 R_z72 []=qxr n  := by
 kernel_rfl
theorem qpC:qg Gc Tryd.prog 72 s_z72:=by
 refine sQ (E:=E_z72) (c:=C_z72) rfl (fun w S hg=>qd) Tryd.func72 ?_
 intro avs r h
 unfold s_z72 at h
 split at h <;> cases h
 obtain ⟨n,hn⟩:=qvk
 exact ⟨n,_,(qyt n ).trans hn,.inl rfl⟩
def E_z53:EnvP:=eQ [(72,s_z72)] 31 (some [2,3]) (fun x=>if x=2 then some [0,6,7] else none) (fun x=>if x=0 then some [0] else if x=1 then some [0,6,7] else if x=2 then some [0,6,7] else none) nP
def C_z53:Code:=cO Tryd.f53
def R_z53:Array ResultVar:=Tryd.f53.results
noncomputable def qjv (K:Ex→Fr→Option AV):=fun s2 s3=>K .ret (frOf [(2,(.dat .byte s2 none)),(3,(.dat .bool s3 none))])
noncomputable def qhd (K:Ex→Fr→Option AV):=fun c0=>K (.exit 0) (frOf [(0,(.dat (.int .i32) c0 none))])
def qjw (n:Nat):Ex→Fr→Option AV:=qN 0 (E_z53.cutb 0) (kSeq (evCP E_z53 (evLP E_z53 n) (sub C_z53 [1,1])) (kFnP E_z53 R_z53))
def qnd (c0:Int) (s6:List (UInt8×(Int×Unit))) (s7:Int):Fr:=frOf [(0,(.dat (.int .i32) c0 none)),(6,(.dat (.arr 8 (.pair .byte (.pair (.int .i32) .unit))) s6 none)),(7,(.dat (.int .i64) s7 none))]
theorem qpD (K:Ex→Fr→Option AV):∀ (n:Nat) (c0:Int) (s6:List (UInt8×(Int×Unit))) (s7:Int),evLP E_z53 n (sub C_z53 [1,0,1,0,0]) K (qnd c0 s6 s7)=qlz (qjv K) (qhd K) n c0 s6 s7:=by
 intro n
 induction n with
 | zero=>intros; rfl
 | succ n IH =>
 intro c0 s6 s7
 have ih:(fun c0 s6 s7=>evLP E_z53 n (sub C_z53 [1,0,1,0,0]) K (qnd c0 s6 s7))=qlz (qjv K) (qhd K) n:=by
  funext c0 s6 s7
  exact IH c0 s6 s7
 show _=qnL (qjv K) (qhd K) (qlz (qjv K) (qhd K) n) n c0 s6 s7
 rw [← ih]
 kernel_rfl
theorem qld (n:Nat) (c0:Int):(qjw n) (.exit 0) (frOf [(0,(.dat (.int .i32) c0 none))])=qcX n c0:=by
 kernel_rfl
theorem qyu (n:Nat) (c0:Int) (o0:Lab):evFnP E_z53 n C_z53 R_z53 [.dat (.int .i32) c0 o0]=qum n c0:=by
 unfold qum
 rw [show qlz qdy (qcX n) n=(fun c0 s6 s7=>evLP E_z53 n (sub C_z53 [1,0,1,0,0]) (qjw n) (qnd c0 s6 s7)) from by
  funext c0 s6 s7
  refine Eq.trans ?_ (qpD (qjw n) n c0 s6 s7).symm
  rw [show (qhd (qjw n))=(qcX n) from by
   funext c0
   exact qld n c0]
  all_goals kernel_rfl]
 kernel_rfl
theorem qjx:qg Gc Tryd.prog 53 s_z53:=by
 refine sQ (E:=E_z53) (c:=C_z53) rfl (fun w S hg=>(qb (qpC w S hg) qd)) Tryd.func53 ?_
 intro avs r h
 unfold s_z53 at h
 split at h <;> cases h
 obtain ⟨n,hn⟩:=qvQ _
 exact ⟨n,_,(qyu n _ _).trans hn,.inl rfl⟩
def E_z63:EnvP:=eQ [(53,s_z53)] 11 (some [2]) nC nC nP
def C_z63:Code:=cO Tryd.f63
def R_z63:Array ResultVar:=Tryd.f63.results
theorem qyv (n:Nat) (c0:Int) (o0:Lab):evFnP E_z63 n C_z63 R_z63 [.dat (.int .i32) c0 o0]=qxs n c0:=by
 kernel_rfl
theorem qpE:qg Gc Tryd.prog 63 s_z63:=by
 refine sQ (E:=E_z63) (c:=C_z63) rfl (fun w S hg=>(qb (qjx w S hg) qd)) Tryd.func63 ?_
 intro avs r h
 unfold s_z63 at h
 split at h <;> cases h
 obtain ⟨n,hn⟩:=qvR _
 exact ⟨n,_,(qyv n _ _).trans hn,.inl rfl⟩
def E_z73:EnvP:=eQ [] 19 (some [4]) (fun x=>if x=2 then some [0,1,7,8] else none) (fun x=>if x=0 then some [] else if x=1 then some [0,1,7,8] else none) nP
def C_z73:Code:=cO Tryd.f73
def R_z73:Array ResultVar:=Tryd.f73.results
noncomputable def qjy (K:Ex→Fr→Option AV):=fun s4=>K .ret (frOf [(4,(.dat (.int .i64) s4 none))])
def qjz (n:Nat):Ex→Fr→Option AV:=qN 0 (E_z73.cutb 0) (kSeq (evCP E_z73 (evLP E_z73 n) (sub C_z73 [1,1])) (kFnP E_z73 R_z73))
def qne (s0:List Int) (v1:Int) (s7:Int) (s8:Int):Fr:=frOf [(0,(.dat (.sl (.int .i32)) s0 none)),(1,(.dat (.int .i32) v1 none)),(7,(.dat (.int .i64) s7 none)),(8,(.dat (.int .i64) s8 none))]
theorem qpF (K:Ex→Fr→Option AV):∀ (n:Nat) (s0:List Int) (v1:Int) (s7:Int) (s8:Int),evLP E_z73 n (sub C_z73 [1,0,1,0,0]) K (qne s0 v1 s7 s8)=qis (qjy K) (K (.exit 0) (frOf [])) n s0 v1 s7 s8:=by
 intro n
 induction n with
 | zero=>intros; rfl
 | succ n IH =>
 intro s0 v1 s7 s8
 have ih:(fun s0 v1 s7 s8=>evLP E_z73 n (sub C_z73 [1,0,1,0,0]) K (qne s0 v1 s7 s8))=qis (qjy K) (K (.exit 0) (frOf [])) n:=by
  funext s0 v1 s7 s8
  exact IH s0 v1 s7 s8
 show _=qcY (qjy K) (K (.exit 0) (frOf [])) (qis (qjy K) (K (.exit 0) (frOf [])) n) n s0 v1 s7 s8
 rw [← ih]
 kernel_rfl
theorem qle (n:Nat)  : (qjz n) (.exit 0) (frOf [])=qeE n  := by
 kernel_rfl
theorem qyw (n:Nat) (s0:List Int) (o0:Lab) (v1:Int) (o1:Lab):evFnP E_z73 n C_z73 R_z73 [.dat (.sl (.int .i32)) s0 o0,.dat (.int .i32) v1 o1]=qrn n s0 v1:=by
 unfold qrn
 rw [show qis qhs (qeE n) n=(fun s0 v1 s7 s8=>evLP E_z73 n (sub C_z73 [1,0,1,0,0]) (qjz n) (qne s0 v1 s7 s8)) from by
  funext s0 v1 s7 s8
  refine Eq.trans ?_ (qpF (qjz n) n s0 v1 s7 s8).symm
  rw [show ((qjz n) (.exit 0) (frOf []))=(qeE n) from by
   exact qle n ]
  all_goals kernel_rfl]
 kernel_rfl
theorem qpG:qg Gc Tryd.prog 73 s_z73:=by
 refine sQ (E:=E_z73) (c:=C_z73) rfl (fun w S hg=>qd) Tryd.func73 ?_
 intro avs r h
 unfold s_z73 at h
 split at h
 ·obtain ⟨hp,rfl⟩:=Prod.mk.inj h
  obtain ⟨n,hn⟩:=qvH _ _ hp
  exact ⟨n,_,(qyw n _ _ _ _).trans hn,.inl rfl⟩
 ·cases h
def E_z74:EnvP:=⟨⟨tiOf tis,fnsOf [],cnsOf [],[],4,(fun _=>none),(fun _=>none),some [0]⟩,fun _=>none,fun _=>none,(fun x=>if x=500002 then [1] else []),fun _=>none,fun _=>none,fun _=>none,fun _=>none⟩
def C_z74:Code:=cO Tryd.f74
def R_z74:Array ResultVar:=Tryd.f74.results
theorem qyx (n:Nat)  : evFnP E_z74 n C_z74 R_z74 []=qxt n  := by
 kernel_rfl
theorem qpH:qg Gc Tryd.prog 74 s_z74:=by
 refine qY qbe (E:=E_z74) (fn:=Tryd.f74) (c:=C_z74) (qD rfl qgc) (fun w S hg=>⟨⟨qd,fun f sp h=>qdr f sp h w S⟩,qby w S hg,(fun _ _ h=>by cases h),(fun f sp h=>qiM f sp h),(fun f it h=>qiN f it h),(fun t kt vt h=>qdX t kt vt h)⟩) follows Tryd.func74 (by kernel_rfl) (by kernel_rfl) (by kernel_rfl) ?_
 intro avs r h
 unfold s_z74 at h
 split at h <;> cases h
 obtain ⟨n,hn⟩:=qvl
 exact ⟨n,_,(qyx n ).trans hn,.inl rfl⟩
def E_z55:EnvP:=eQ [(73,s_z73),(74,s_z74)] 31 (some [2,3]) nC (fun x=>if x=0 then some [0] else none) nP
def C_z55:Code:=cO Tryd.f55
def R_z55:Array ResultVar:=Tryd.f55.results
theorem qyy (n:Nat) (c0:Int) (o0:Lab):evFnP E_z55 n C_z55 R_z55 [.dat (.int .i32) c0 o0]=qun n c0:=by
 kernel_rfl
theorem qjA:qg Gc Tryd.prog 55 s_z55:=by
 refine sQ (E:=E_z55) (c:=C_z55) rfl (fun w S hg=>(qb (qpG w S hg) (qb (qpH w S hg) qd))) Tryd.func55 ?_
 intro avs r h
 unfold s_z55 at h
 split at h <;> cases h
 obtain ⟨n,hn⟩:=qvS _
 exact ⟨n,_,(qyy n _ _).trans hn,.inl rfl⟩
def E_z64:EnvP:=eQ [(55,s_z55)] 11 (some [2]) nC nC nP
def C_z64:Code:=cO Tryd.f64
def R_z64:Array ResultVar:=Tryd.f64.results
theorem qyz (n:Nat) (c0:Int) (o0:Lab):evFnP E_z64 n C_z64 R_z64 [.dat (.int .i32) c0 o0]=qxu n c0:=by
 kernel_rfl
theorem qjB:qg Gc Tryd.prog 64 s_z64:=by
 refine sQ (E:=E_z64) (c:=C_z64) rfl (fun w S hg=>(qb (qjA w S hg) qd)) Tryd.func64 ?_
 intro avs r h
 unfold s_z64 at h
 split at h <;> cases h
 obtain ⟨n,hn⟩:=qvT _
 exact ⟨n,_,(qyz n _ _).trans hn,.inl rfl⟩
def E_z79:EnvP:=eQ [] 9 (some [2]) nC nC nP
def C_z79:Code:=cO Tryd.f79
def R_z79:Array ResultVar:=Tryd.f79.results
theorem qyA (n:Nat) (c0:Int) (o0:Lab):evFnP E_z79 n C_z79 R_z79 [.dat (.int .i32) c0 o0]=qup n c0:=by
 kernel_rfl
theorem qpI:qg Gc Tryd.prog 79 s_z79:=by
 refine sQ (E:=E_z79) (c:=C_z79) rfl (fun w S hg=>qd) Tryd.func79 ?_
 intro avs r h
 unfold s_z79 at h
 split at h <;> cases h
 obtain ⟨n,hn⟩:=qvE _
 exact ⟨n,_,(qyA n _ _).trans hn,.inl rfl⟩
def E_z65:EnvP:=eQ [(79,s_z79)] 11 (some [2]) nC nC nP
def C_z65:Code:=cO Tryd.f65
def R_z65:Array ResultVar:=Tryd.f65.results
theorem qyB (n:Nat) (c0:Int) (o0:Lab):evFnP E_z65 n C_z65 R_z65 [.dat (.int .i32) c0 o0]=quq n c0:=by
 kernel_rfl
theorem qgd:qg Gc Tryd.prog 65 s_z65:=by
 refine sQ (E:=E_z65) (c:=C_z65) rfl (fun w S hg=>(qb (qpI w S hg) qd)) Tryd.func65 ?_
 intro avs r h
 unfold s_z65 at h
 split at h <;> cases h
 obtain ⟨n,hn⟩:=qvF _
 exact ⟨n,_,(qyB n _ _).trans hn,.inl rfl⟩
def E_z47:EnvP:=eQ [(62,s_z62),(63,s_z63),(64,s_z64),(65,s_z65)] 30 (some [4]) nC (fun x=>if x=0 then some [] else none) nP
def C_z47:Code:=cO Tryd.f47
def R_z47:Array ResultVar:=Tryd.f47.results
theorem qyC (n:Nat) (charset0:Int) (o0:Lab) (c1:Int) (o1:Lab):evFnP E_z47 n C_z47 R_z47 [.dat (.int .i64) charset0 o0,.dat (.int .i32) c1 o1]=qur n charset0 c1:=by
 kernel_rfl
theorem qjC:qg Gc Tryd.prog 47 s_z47:=by
 refine sQ (E:=E_z47) (c:=C_z47) rfl (fun w S hg=>(qb (qju w S hg) (qb (qpE w S hg) (qb (qjB w S hg) (qb (qgd w S hg) qd))))) Tryd.func47 ?_
 intro avs r h
 unfold s_z47 at h
 split at h <;> cases h
 obtain ⟨n,hn⟩:=qvW _ _
 exact ⟨n,_,(qyC n _ _ _ _).trans hn,.inl rfl⟩
end
end Go.Av
