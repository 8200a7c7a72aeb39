import Derived.Test.YtabdohophompiaaGreatDoorPxP12
import Derived.Test.YtabdohophompiaaGreatDoorPxN
import Derived.Test.YtabdohophompiaaGreatDoorProg
import Derived.KernelRfl
namespace Go.Av
set_option linter.unusedSimpArgs false
noncomputable section
open Go.Proofs
set_option maxRecDepth 100000
set_option linter.unusedVariables false
def tis:List (TypeId×TI):=[(2,⟨some (.int .i64),8,0⟩),
 (3,⟨some (.int .i64),8,0⟩),
 (4,⟨some .bool,1,0⟩),
 (5,⟨some .byte,1,0⟩),
 (6,⟨some .byte,1,0⟩),
 (7,⟨some (.pair (.int .i64) (.pair (.int .i64) (.pair .bool (.pair .byte .unit)))),24,0⟩),
 (8,⟨some (.pair (.int .i64) (.pair (.int .i64) (.pair .bool (.pair .byte .unit)))),24,0⟩),
 (9,⟨some .str,16,0⟩),
 (10,⟨some .str,16,0⟩),
 (11,⟨some .str,16,0⟩),
 (12,⟨some (.int .u64),8,0⟩),
 (13,⟨some (.pair .str (.pair (.int .u64) .unit)),24,0⟩),
 (14,⟨some (.pair .str (.pair (.int .u64) .unit)),24,0⟩),
 (21,⟨some (.int .i32),4,0⟩),
 (22,⟨some (.sl .byte),24,5⟩),
 (23,⟨some (.sl (.int .i32)),24,21⟩),
 (25,⟨some (.int .i64),8,0⟩),
 (30,⟨some (.sl (.sl .byte)),24,22⟩),
 (42,⟨some (.sl (.pair (.sl .byte) (.pair (.int .i64) (.pair .bool (.pair (.sl .byte) .unit))))),24,46⟩),
 (45,⟨some (.pair (.sl .byte) (.pair (.int .i64) (.pair .bool (.pair (.sl .byte) .unit)))),64,0⟩),
 (46,⟨some (.pair (.sl .byte) (.pair (.int .i64) (.pair .bool (.pair (.sl .byte) .unit)))),64,0⟩),
 (79,⟨some (.pair (.sl .byte) (.pair (.int .i64) (.pair .bool (.pair (.sl .byte) .unit)))),64,0⟩),
 (84,⟨some (.sl .str),24,9⟩),
 (96,⟨some (.int .u64),8,0⟩),
 (110,⟨some (.int .u32),4,0⟩),
 (112,⟨some (.int .u64),8,0⟩),
 (118,⟨some (.arr 32 .byte),32,5⟩),
 (119,⟨some (.arr 64 .byte),64,5⟩),
 (120,⟨some (.pair .byte (.pair (.int .i32) .unit)),8,0⟩),
 (121,⟨some (.pair .byte (.pair (.int .i32) .unit)),8,0⟩),
 (122,⟨some (.arr 8 (.pair .byte (.pair (.int .i32) .unit))),64,121⟩),
 (126,⟨some (.arr 32 (.int .i32)),128,21⟩),
 (127,⟨some (.arr 24 .byte),24,5⟩),
 (133,⟨some (.arr 20 (.int .u64)),160,112⟩),
 (134,⟨some (.arr 65 .byte),65,5⟩),
 (143,⟨some .byte,1,0⟩),
 (144,⟨some .byte,1,0⟩),
 (147,⟨some (.int .i32),4,0⟩),
 (148,⟨some (.int .i32),4,0⟩)]
theorem qeh:(tis.all fun p=>tyB Tryz.prog (tiOf tis) p.1)=true:=by kernel_rfl
theorem follows:Tryz.prog.follows .mixedOrders=true:=by kernel_rfl
abbrev FnL:=List (FuncId×(List AV→Bool×AV))
abbrev CutL:=Nat→Option (List Nat)
def eQ (l:FnL) (nt:Nat) (r:Option (List Nat)) (a b:CutL) (p:Nat→Option PSh):EnvP:=⟨⟨tiOf tis,fnsOf l,cnsOf [],[],nt,a,b,r⟩,p,fun _=>none,fun _=>[],fun _=>none,fun _=>none,fun _=>none,fun _=>none⟩
def cO (f:Func):Code:=f.body.getD .skip
def nC:CutL:=fun _=>none
def nP:Nat→Option PSh:=fun _=>none
theorem sQ {E:EnvP} {l:FnL} {nt:Nat} {r:Option (List Nat)} {a b:CutL} {p:Nat→Option PSh} {f:FuncId} {fn:Func} {c:Code} {spec:List AV→Bool×AV} (hE:E=eQ l nt r a b p) (hl:∀ w S,G w S→∀ f,qbo Tryz.prog f (fnsOf l f) w S)
 (hf:Tryz.prog.funcs[f]? = some fn) (hspec:∀ avs r',spec avs=(true,r')→∃ n v,evFnP E n c fn.results avs=some v∧(v=r'∨v.strip=r')) (hb:fn.body=some c:=by kernel_rfl) (hnt:fn.ntmps=nt:=by kernel_rfl) (hname:(fn.name == "runtime.NumGoroutine")=false:=by kernel_rfl):qh G Tryz.prog f spec:=by
 subst hE;exact qO G_stays (E:=eQ l nt r a b p) (qn rfl qeh) (fun w S hg=>⟨⟨hl w S hg,fun f sp h=>qbF f sp h w S⟩,qfh w S hg,(fun _ _ h=>by cases h),(fun f sp h=>qhl f sp h),(fun f it h=>qhm f it h),(fun t kt vt h=>qdb t kt vt h)⟩) follows hf hb hnt hname hspec
def s_z105:List AV→Bool×AV
 | [di a0 _]=>(true,(dh (z105 a0) none))
 | _=>(false,.bad)
def s_z130:List AV→Bool×AV
 | []=>(true,(.dat (.arr 8 (.pair .byte (.pair (.int .i32) .unit))) z130 none))
 | _=>(false,.bad)
def s_z113:List AV→Bool×AV
 | [di a0 _]=>(true,(.tup [(dm ((z113 a0).1) none),(dh ((z113 a0).2) none)]))
 | _=>(false,.bad)
def s_z106:List AV→Bool×AV
 | [di a0 _]=>(true,(dh (z106 a0) none))
 | _=>(false,.bad)
def s_z89:List AV→Bool×AV
 | [.dat (.sl (.int .i32)) a0 _,di a1 _]=>(qoG a0 a1,(de (z89 a0 a1) none))
 | _=>(false,.bad)
def s_z131:List AV→Bool×AV
 | []=>(true,(.dat (.sl (.int .i32)) z131 none))
 | _=>(false,.bad)
def s_z115:List AV→Bool×AV
 | [di a0 _]=>(true,(.tup [(dm ((z115 a0).1) none),(dh ((z115 a0).2) none)]))
 | _=>(false,.bad)
def s_z107:List AV→Bool×AV
 | [di a0 _]=>(true,(dh (z107 a0) none))
 | _=>(false,.bad)
def s_z127:List AV→Bool×AV
 | [di a0 _]=>(true,(dh (z127 a0) none))
 | _=>(false,.bad)
def s_z108:List AV→Bool×AV
 | [di a0 _]=>(true,(dh (z108 a0) none))
 | _=>(false,.bad)
def s_z72:List AV→Bool×AV
 | [de a0 _,di a1 _]=>(true,(dh (z72 a0 a1) none))
 | _=>(false,.bad)
def s_z42:List AV→Bool×AV
 | [di a0 _]=>(true,(de (z42 a0) none))
 | _=>(false,.bad)
def s_z110:List AV→Bool×AV
 | [.dat (.int .u64) a0 _]=>(qqW a0,(de (z110 a0) none))
 | _=>(false,.bad)
def s_z73:List AV→Bool×AV
 | [.dat (.int .u64) a0 _]=>(quE a0,(de (z73 a0) none))
 | _=>(false,.bad)
def s_z43:List AV→Bool×AV
 | [de a0 _]=>(quF a0,(de (z43 a0) none))
 | _=>(false,.bad)
def s_z22:List AV→Bool×AV
 | [.dat (.sl (.int .i32)) a0 _]=>(quG a0,(.tup [(de ((z22 a0).1) none),(de ((z22 a0).2) none)]))
 | _=>(false,.bad)
def s_z92:List AV→Bool×AV
 | [.dat (.sl (.int .i32)) a0 _]=>(quM a0,(de (z92 a0) none))
 | _=>(false,.bad)
def s_z52:List AV→Bool×AV
 | [.dat (.sl (.int .i32)) a0 _]=>(qoI a0,(.tup [(db ((z52 a0).1) none),(de ((z52 a0).2) none)]))
 | _=>(false,.bad)
def s_z74:List AV→Bool×AV
 | [de a0 _]=>(true,(de (z74 a0) none))
 | _=>(false,.bad)
def s_z111:List AV→Bool×AV
 | [de a0 _,.dat (.sl (.int .i32)) a1 _]=>(qmN a0 a1,(de (z111 a0 a1) none))
 | _=>(false,.bad)
def s_z75:List AV→Bool×AV
 | [de a0 _,.dat (.sl (.int .i32)) a1 _]=>(quQ a0 a1,(dh (z75 a0 a1) none))
 | _=>(false,.bad)
def s_z91:List AV→Bool×AV
 | [di a0 _]=>(true,(dh (z91 a0) none))
 | _=>(false,.bad)
def s_z122:List AV→Bool×AV
 | [di a0 _]=>(true,(dh (z122 a0) none))
 | _=>(false,.bad)
def s_z121:List AV→Bool×AV
 | [.dat (.sl (.int .i32)) a0 _,.fn f []]=>bif f==122 then (qcI a0,de (z121 a0) none) else bif f==91 then (qcI a0,de (qo a0) none) else (false,.bad)
 | _=>(false,.bad)
def s_z121_v0:List AV→Bool×AV
 | [.dat (.sl (.int .i32)) a0 _,.fn 122 []]=>(qcI a0,de (z121 a0) none)
 | _=>(false,.bad)
def s_z121_v1:List AV→Bool×AV
 | [.dat (.sl (.int .i32)) a0 _,.fn 91 []]=>(qcI a0,de (qo a0) none)
 | _=>(false,.bad)
def s_z88:List AV→Bool×AV
 | [.dat (.sl (.int .i32)) a0 _]=>(quL a0,(de (z88 a0) none))
 | _=>(false,.bad)
def s_z49:List AV→Bool×AV
 | [.dat (.sl (.int .i32)) a0 _]=>(qoH a0,(dh (z49 a0) none))
 | _=>(false,.bad)
def s_z53:List AV→Bool×AV
 | [db a0 _]=>(qgt a0,(db (z53 a0) (some (0,5))))
 | _=>(false,.bad)
def s_z128:List AV→Bool×AV
 | [di a0 _]=>(true,(de (z128 a0) none))
 | _=>(false,.bad)
def s_z129:List AV→Bool×AV
 | [de a0 _]=>(true,(dm (z129 a0) none))
 | _=>(false,.bad)
def s_z112:List AV→Bool×AV
 | [db a0 _,di a1 _]=>(qmL a0 a1,(.tup [(db ((z112 a0 a1).1) none),(de ((z112 a0 a1).2) none)]))
 | _=>(false,.bad)
def s_z76:List AV→Bool×AV
 | [.dat (.sl (.int .i32)) a0 _]=>(quP a0,(.tup [(db ((z76 a0).1) none),(de ((z76 a0).2) none)]))
 | _=>(false,.bad)
def s_z77:List AV→Bool×AV
 | [.dat (.sl (.int .i32)) a0 _]=>(quN a0,(.tup [(db ((z77 a0).1) none),(de ((z77 a0).2) none)]))
 | _=>(false,.bad)
def s_z114:List AV→Bool×AV
 | [.dat (.sl (.int .i32)) a0 _]=>(qmM a0,(de (z114 a0) none))
 | _=>(false,.bad)
def s_z78:List AV→Bool×AV
 | [.dat (.sl (.int .i32)) a0 _]=>(quO a0,(.tup [(db ((z78 a0).1) none),(de ((z78 a0).2) none)]))
 | _=>(false,.bad)
def s_z44:List AV→Bool×AV
 | [de a0 _,.dat (.sl (.int .i32)) a1 _]=>(quR a0 a1,(.tup [(db ((z44 a0 a1).1) none),(de ((z44 a0 a1).2) none)]))
 | _=>(false,.bad)
def s_z134:List AV→Bool×AV
 | [dm a0 _]=>(true,(de (z134 a0) none))
 | _=>(false,.bad)
def s_z146:List AV→Bool×AV
 | [df a0 _,dm a1 _]=>(true,(de (z146 a0 a1) none))
 | _=>(false,.bad)
def s_z145:List AV→Bool×AV
 | [df a0 _,dm a1 _]=>(true,(de (z145 a0 a1) none))
 | _=>(false,.bad)
def s_z140:List AV→Bool×AV
 | [df a0 _,dm a1 _]=>(true,(de (z140 a0 a1) none))
 | _=>(false,.bad)
def s_z135:List AV→Bool×AV
 | [df a0 _,dm a1 _]=>(true,(dh (z135 a0 a1) none))
 | _=>(false,.bad)
def s_z125:List AV→Bool×AV
 | [dm a0 _]=>(true,(de (z125 a0) none))
 | _=>(false,.bad)
def s_z100:List AV→Bool×AV
 | [dm a0 _,de a1 _]=>(true,(dh (z100 a0 a1) none))
 | _=>(false,.bad)
def s_z79:List AV→Bool×AV
 | [dm a0 _]=>(true,(de (z79 a0) none))
 | _=>(false,.bad)
def s_z132:List AV→Bool×AV
 | [de a0 _]=>(qcH a0,(dm (z132 a0) none))
 | _=>(false,.bad)
def s_z116:List AV→Bool×AV
 | [dm a0 _]=>(true,(db (z116 a0) (some (2,5))))
 | _=>(false,.bad)
def s_z80:List AV→Bool×AV
 | [db a0 _,dm a1 _,dm a2 _]=>(quK a0 a1 a2,(db (z80 a0 a1 a2) (some (6,5))))
 | _=>(false,.bad)
def s_z45:List AV→Bool×AV
 | [db a0 _]=>(qwm a0,(db (z45 a0) (some (2,5))))
 | _=>(false,.bad)
def s_z23:List AV→Bool×AV
 | [de a0 _,.dat (.sl (.int .i32)) a1 _]=>(qwu a0 a1,(.dat (.sl (.sl .byte)) (z23 a0 a1) (some (4,22))))
 | _=>(false,.bad)
def s_z64:List AV→Bool×AV
 | [db a0 _,de a1 _]=>(quT a0 a1,(de (z64 a0 a1) none))
 | _=>(false,.bad)
def s_z36:List AV→Bool×AV
 | [db a0 _,de a1 _]=>(qoK a0 a1,(dh (z36 a0 a1) none))
 | _=>(false,.bad)
def s_z18:List AV→Bool×AV
 | [db a0 _]=>(qwq a0,(dh (z18 a0) none))
 | _=>(false,.bad)
def s_z50:List AV→Bool×AV
 | [.dat (.sl (.int .i32)) a0 _,di a1 _]=>(qwr a0 a1,(dh (z50 a0 a1) none))
 | _=>(false,.bad)
def s_z27:List AV→Bool×AV
 | [db a0 _,.dat (.sl (.int .i32)) a1 _]=>(qiK a0 a1,(de (z27 a0 a1) none))
 | _=>(false,.bad)
def s_z90:List AV→Bool×AV
 | [.dat (.sl (.int .i32)) a0 _,.fn 91 []]=>(qws a0,(dh (z90 a0) none))
 | _=>(false,.bad)
def s_z51:List AV→Bool×AV
 | [.dat (.sl (.int .i32)) a0 _]=>(qwt a0,(dh (z51 a0) none))
 | _=>(false,.bad)
def s_z93:List AV→Bool×AV
 | [db a0 _]=>(qwo a0,(dh (z93 a0) none))
 | _=>(false,.bad)
def s_z94:List AV→Bool×AV
 | [db a0 _]=>(qwn a0,(db (z94 a0) (some (2,5))))
 | _=>(false,.bad)
def s_z54:List AV→Bool×AV
 | [db a0 _]=>(qwp a0,(db (z54 a0) (some (2,5))))
 | _=>(false,.bad)
def s_z28:List AV→Bool×AV
 | [db a0 _,.dat (.sl (.int .i32)) a1 _]=>(qks a0 a1,(.tup [(db ((z28 a0 a1).1) none),(dh ((z28 a0 a1).2) none)]))
 | _=>(false,.bad)
def s_z136:List AV→Bool×AV
 | [de a0 _]=>(qnE a0,(df (z136 a0) none))
 | _=>(false,.bad)
def s_z137:List AV→Bool×AV
 | [.dat (.int .u64) a0 _]=>(false,(de (z137 a0) none))
 | _=>(false,.bad)
def s_z139:List AV→Bool×AV
 | [db a0 _,.dat (.int .u64) a1 _,de a2 _,dh a3 _,dh a4 _]=>(false,(.tup [(db ((z139 a0 a1 a2 a3 a4)).1 none),(df ((z139 a0 a1 a2 a3 a4)).2 none)]))
 | _=>(false,.bad)
def s_z133:List AV→Bool×AV
 | [db a0 (some (0,5)),.dat (.int .u64) a1 _,de a2 _]=>(qhx a0 a1 a2,(db (z133 a0 a1 a2) (some (6,5))))
 | _=>(false,.bad)
def s_z123:List AV→Bool×AV
 | [db a0 (some (0,5)),de a1 _,de a2 _]=>(qkr a0 a1 a2,(db (z123 a0 a1 a2) (some (6,5))))
 | _=>(false,.bad)
def s_z95:List AV→Bool×AV
 | [db a0 (some (0,5)),de a1 _,de a2 _]=>(qse a0 a1 a2,(db (z95 a0 a1 a2) (some (6,5))))
 | _=>(false,.bad)
def s_z55:List AV→Bool×AV
 | [.dat (.pair (.sl .byte) (.pair (.int .i64) (.pair .bool (.pair (.sl .byte) .unit)))) a0 _]=>(qsf a0,(db (z55 a0) (some (2,5))))
 | _=>(false,.bad)
def s_z96:List AV→Bool×AV
 | [de a0 _]=>(true,(.dat (.sl .str) (z96 a0) (some (2,9))))
 | _=>(false,.bad)
def s_z56:List AV→Bool×AV
 | [de a0 _]=>(true,(df (z56 a0) none))
 | _=>(false,.bad)
def s_z29:List AV→Bool×AV
 | [db a0 _,de a1 _,de a2 _]=>(qfr a0 a1 a2,(db (z29 a0 a1 a2) (some (6,5))))
 | _=>(false,.bad)
def s_z30:List AV→Bool×AV
 | [.dat (.sl (.sl .byte)) a0 _,db a1 _]=>(qoF a0 a1,(db (z30 a0 a1) none))
 | _=>(false,.bad)
def s_z58:List AV→Bool×AV
 | [db a0 _,.pbox (.leaf .bool) a1 none,.pbox (.osl 5 .byte) a2 none,.pbox (.psl 22 (.osl 5 .byte)) a3 none,.pbox (.leaf (.sl .byte)) a4 none,.pbox (.leaf (.int .i64)) a5 none]=>((qpq a0 a1 a2 a3 a4 a5),.tup [(.tup []),.bad,(.pbox (.leaf .bool) ((z58 a0 a1 a2 a3 a4 a5).1) none),(.pbox (.osl 5 .byte) ((z58 a0 a1 a2 a3 a4 a5).2.1) none),(.pbox (.psl 22 (.osl 5 .byte)) ((z58 a0 a1 a2 a3 a4 a5).2.2.1) none),(.pbox (.leaf (.sl .byte)) ((z58 a0 a1 a2 a3 a4 a5).2.2.2.1) none),(.pbox (.leaf (.int .i64)) ((z58 a0 a1 a2 a3 a4 a5).2.2.2.2) none)])
 | _=>(false,.bad)
def s_z31:List AV→Bool×AV
 | [db a0 _,de a1 _,.dat (.sl (.sl .byte)) a2 _]=>(qpr a0 a1 a2,(.dat (.sl (.sl .byte)) (z31 a0 a1 a2) none))
 | _=>(false,.bad)
def s_z13:List AV→Bool×AV
 | [db a0 _,.dat (.sl (.int .i32)) a1 _]=>(qkt a0 a1,(.tup [(.dat (.sl (.sl .byte)) ((z13 a0 a1).1) none),(de ((z13 a0 a1).2) none)]))
 | _=>(false,.bad)
def s_z7:List AV→Bool×AV
 | [db a0 _,.dat (.sl (.int .i32)) a1 _]=>(z7_ok a0 a1,(.tup [(db ((z7 a0 a1).1) none),(de ((z7 a0 a1).2) none)]))
 | _=>(false,.bad)
def s_z6:List AV→Bool×AV
 | []=>(true,(dg z6))
 | _=>(false,.bad)
def s_z11:List AV→Bool×AV
 | [db a0 _,db a1 _]=>(qqZ a0 a1,(dh (z11 a0 a1) none))
 | _=>(false,.bad)
def s_z15:List AV→Bool×AV
 | [db a0 _,.dat (.sl (.int .i32)) a1 _]=>(qwv a0 a1,(de (z15 a0 a1) none))
 | _=>(false,.bad)
def s_z16:List AV→Bool×AV
 | [db a0 _,.dat (.sl (.int .i32)) a1 _]=>(qiL a0 a1,(dh (z16 a0 a1) none))
 | _=>(false,.bad)
def s_z66:List AV→Bool×AV
 | [db a0 _]=>(qps a0,(.tup [(db ((z66 a0).1) none),(de ((z66 a0).2.1) none),(de ((z66 a0).2.2) none)]))
 | _=>(false,.bad)
def s_z126:List AV→Bool×AV
 | [df a0 _,dm a1 _]=>(qxP a0 a1,(dh (z126 a0 a1) none))
 | _=>(false,.bad)
def s_z101:List AV→Bool×AV
 | [dm a0 _]=>(true,(de (z101 a0) none))
 | _=>(false,.bad)
def s_z65:List AV→Bool×AV
 | [dm a0 _,de a1 _]=>(true,(dh (z65 a0 a1) none))
 | _=>(false,.bad)
def s_z102:List AV→Bool×AV
 | [db a0 _,de a1 _]=>(true,(de (z102 a0 a1) none))
 | _=>(false,.bad)
def s_z103:List AV→Bool×AV
 | [db a0 _,de a1 _]=>(false,(.tup [(de ((z103 a0 a1)).1 none),(de ((z103 a0 a1)).2 none)]))
 | _=>(false,.bad)
def s_z67:List AV→Bool×AV
 | [db a0 _,de a1 _]=>(qav a0 a1,(de (z67 a0 a1) none))
 | _=>(false,.bad)
def s_z38:List AV→Bool×AV
 | [db a0 _]=>(qpt a0,(.dat (.sl (.sl .byte)) (z38 a0) (some (2,22))))
 | _=>(false,.bad)
def s_z68:List AV→Bool×AV
 | [db a0 _,de a1 _]=>(qlw a0 a1,(.tup [(db ((z68 a0 a1).1) none),(de ((z68 a0 a1).2.1) none),(de ((z68 a0 a1).2.2) none)]))
 | _=>(false,.bad)
def s_z69:List AV→Bool×AV
 | [db a0 _,de a1 _,dm a2 _]=>(qww a0 a1 a2,(.tup [(de ((z69 a0 a1 a2).1) none),(dh ((z69 a0 a1 a2).2) none)]))
 | _=>(false,.bad)
def s_z70:List AV→Bool×AV
 | [db a0 _,de a1 _]=>(qwx a0 a1,(.tup [(db ((z70 a0 a1).1) none),(de ((z70 a0 a1).2.1) none),(de ((z70 a0 a1).2.2) none)]))
 | _=>(false,.bad)
def s_z41:List AV→Bool×AV
 | [dm a0 _]=>(true,(dm (z41 a0) none))
 | _=>(false,.bad)
def s_z21:List AV→Bool×AV
 | [db a0 _]=>(qdz a0,(db (z21 a0) (some (2,5))))
 | _=>(false,.bad)
def s_z37:List AV→Bool×AV
 | [db a0 _,de a1 _]=>(quU a0 a1,(de (z37 a0 a1) none))
 | _=>(false,.bad)
def s_z104:List AV→Bool×AV
 | [db a0 _]=>(qdC a0,(de (z104 a0) none))
 | _=>(false,.bad)
def s_z71:List AV→Bool×AV
 | [db a0 _]=>(qfs a0,(.tup [(db ((z71 a0).1) none),(de ((z71 a0).2.1) none),(dh ((z71 a0).2.2) none)]))
 | _=>(false,.bad)
def s_z39:List AV→Bool×AV
 | [db a0 _]=>(qel a0,(.tup [(.dat (.pair (.sl .byte) (.pair (.int .i64) (.pair .bool (.pair (.sl .byte) .unit)))) ((z39 a0).1) none),(de ((z39 a0).2) none)]))
 | _=>(false,.bad)
def s_z40:List AV→Bool×AV
 | [db a0 _]=>(qwy a0,(dh (z40 a0) none))
 | _=>(false,.bad)
def s_z20:List AV→Bool×AV
 | [db a0 _]=>(qpu a0,(.tup [(.dat (.sl (.pair (.sl .byte) (.pair (.int .i64) (.pair .bool (.pair (.sl .byte) .unit))))) ((z20 a0).1) none),(de ((z20 a0).2) none)]))
 | _=>(false,.bad)
def s_z5:List AV→Bool×AV
 | [db a0 _,.dat (.sl (.int .i32)) a1 _]=>(z5_ok a0 a1,(dh (z5 a0 a1) none))
 | _=>(false,.bad)
theorem qrb:qh G Tryz.prog 146 s_z146:=fun w S hg vals avs r h hS ha=>by
 unfold s_z146 at h;split at h
 ·simp only [yb,true_and] at h;subst h;exact qpv Tryz.func146 (by kernel_rfl) (by kernel_rfl) (by kernel_rfl) (by kernel_rfl) hS ha
 ·cases h
theorem qdA:qh G Tryz.prog 53 s_z53:=fun w S hg vals avs r h hS ha=>by
 unfold s_z53 at h;split at h
 ·obtain ⟨hp,rfl⟩:=yj h;exact qsi hS ha (qp hp)
 ·cases h
theorem qrc:qh G Tryz.prog 110 s_z110:=fun w S hg vals avs r h hS ha=>by
 unfold s_z110 at h;split at h
 ·obtain ⟨hp,rfl⟩:=yj h;have hp':=of_decide_eq_true hp;exact qpw hg hS ha hp'.1 hp'.2
 ·cases h
theorem qvc:qh G Tryz.prog 30 s_z30:=fun w S hg vals avs r h hS ha=>by
 unfold s_z30 at h;split at h
 ·obtain ⟨hp,rfl⟩:=yj h;exact qsl hS ha hp
 ·cases h
theorem qoN:qh Any Tryz.prog 137 s_z137:=fun w S hg vals avs r h hS ha=>by
 unfold s_z137 at h;split at h
 ·simp only [yb] at h;cases h.1
 ·cases h
theorem qoO:qh Any Tryz.prog 139 s_z139:=fun w S hg vals avs r h hS ha=>by
 unfold s_z139 at h;split at h
 ·simp only [yb] at h;cases h.1
 ·cases h
theorem qrd:qh G Tryz.prog 103 s_z103:=fun w S hg vals avs r h hS ha=>by
 unfold s_z103 at h;split at h
 ·simp only [yb] at h;cases h.1
 ·cases h
def qCE:EnvP:=eQ [] 6 (some [2]) nC nC nP
def qCF:Code:=cO Tryz.f105
def qFm:Array ResultVar:=Tryz.f105.results
theorem qCG (n:Nat) (c0:Int) (o0:Lab):evFnP qCE n qCF qFm [di c0 o0]=qye n c0:=by
 kernel_rfl
theorem qjR:qh G Tryz.prog 105 s_z105:=by
 refine sQ (E:=qCE) (c:=qCF) rfl (fun w S hg=>qc) Tryz.func105 ?_;intro avs r h;unfold s_z105 at h;split at h <;> cases h
 obtain ⟨n,hn⟩:=qxI _;exact ⟨n,_,(qCG n _ _).trans hn,.inl rfl⟩
def qCH:EnvP:=eQ [] 10 (some [0]) nC nC nP
def qCI:Code:=cO Tryz.f130
def qFn:Array ResultVar:=Tryz.f130.results
theorem qCJ (n:Nat)  : evFnP qCH n qCI qFn []=qyf n  := by
 kernel_rfl
theorem qre:qh G Tryz.prog 130 s_z130:=by
 refine sQ (E:=qCH) (c:=qCI) rfl (fun w S hg=>qc) Tryz.func130 ?_;intro avs r h;unfold s_z130 at h;split at h <;> cases h
 obtain ⟨n,hn⟩:=qxv;exact ⟨n,_,(qCJ n ).trans hn,.inl rfl⟩
def qiq:EnvP:=eQ [(130,s_z130)] 31 (some [2,3]) (fun x=>if x=2 then some [0,6,7] else none) (fun x=>if x=0 then some [0] else if x=1 then some [0,6,7] else if x=2 then some [0,6,7] else none) nP
def qoP:Code:=cO Tryz.f113
def qCK:Array ResultVar:=Tryz.f113.results
noncomputable def qir (K:Ex→Fr→Option AV):=fun s2 s3=>K .ret (frOf [(2,(dm s2 none)),(3,dg s3)])
noncomputable def qgu (K:Ex→Fr→Option AV):=fun c0=>K (.exit 0) (frOf [(0,(di c0 none))])
def qis (n:Nat):Ex→Fr→Option AV:=qz 0 (qiq.cutb 0) (kSeq (evCP qiq (evLP qiq n) (sub qoP [1,1])) (kFnP qiq qCK))
def qlm (c0:Int) (s6:List (UInt8×(Int×Unit))) (s7:Int):Fr:=frOf [(0,(di c0 none)),(6,(.dat (.arr 8 (.pair .byte (.pair (.int .i32) .unit))) s6 none)),(7,dc s7)]
theorem qrf (K:Ex→Fr→Option AV):∀ (n:Nat) (c0:Int) (s6:List (UInt8×(Int×Unit))) (s7:Int),evLP qiq n (sub qoP [1,0,1,0,0]) K (qlm c0 s6 s7)=qhA (qir K) (qgu K) n c0 s6 s7:=by
 intro n;induction n with
 | zero=>intros; rfl
 | succ n IH =>
 intro c0 s6 s7;have ih:(fun c0 s6 s7=>evLP qiq n (sub qoP [1,0,1,0,0]) K (qlm c0 s6 s7))=qhA (qir K) (qgu K) n:=by
  funext c0 s6 s7;exact IH c0 s6 s7
 show _=qnU (qir K) (qgu K) (qhA (qir K) (qgu K) n) n c0 s6 s7;rw [← ih];kernel_rfl
theorem qln (n:Nat) (c0:Int):(qis n) (.exit 0) (frOf [(0,(di c0 none))])=qcs n c0:=by
 kernel_rfl
theorem qCL (n:Nat) (c0:Int) (o0:Lab):evFnP qiq n qoP qCK [di c0 o0]=qsR n c0:=by
 unfold qsR;rw [show qhA qbX (qcs n) n=(fun c0 s6 s7=>evLP qiq n (sub qoP [1,0,1,0,0]) (qis n) (qlm c0 s6 s7)) from by
  funext c0 s6 s7;refine Eq.trans ?_ (qrf (qis n) n c0 s6 s7).symm;rw [show (qgu (qis n))=(qcs n) from by
   funext c0;exact qln n c0]
  all_goals kernel_rfl]
 kernel_rfl
theorem qjS:qh G Tryz.prog 113 s_z113:=by
 refine sQ (E:=qiq) (c:=qoP) rfl (fun w S hg=>(qb (qre w S hg) qc)) Tryz.func113 ?_;intro avs r h;unfold s_z113 at h;split at h <;> cases h
 obtain ⟨n,hn⟩:=qxE _;exact ⟨n,_,(qCL n _ _).trans hn,.inl rfl⟩
def qCM:EnvP:=eQ [(113,s_z113)] 11 (some [2]) nC nC nP
def qCN:Code:=cO Tryz.f106
def qFo:Array ResultVar:=Tryz.f106.results
theorem qCO (n:Nat) (c0:Int) (o0:Lab):evFnP qCM n qCN qFo [di c0 o0]=qyg n c0:=by
 kernel_rfl
theorem qrg:qh G Tryz.prog 106 s_z106:=by
 refine sQ (E:=qCM) (c:=qCN) rfl (fun w S hg=>(qb (qjS w S hg) qc)) Tryz.func106 ?_;intro avs r h;unfold s_z106 at h;split at h <;> cases h
 obtain ⟨n,hn⟩:=qxF _;exact ⟨n,_,(qCO n _ _).trans hn,.inl rfl⟩
def E_z89:EnvP:=eQ [] 19 (some [4]) (fun x=>if x=2 then some [0,1,7,8] else none) (fun x=>if x=0 then some [] else if x=1 then some [0,1,7,8] else none) nP
def C_z89:Code:=cO Tryz.f89
def R_z89:Array ResultVar:=Tryz.f89.results
noncomputable def qmQ (K:Ex→Fr→Option AV):=fun s4=>K .ret (frOf [(4,dc s4)])
def qmR (n:Nat):Ex→Fr→Option AV:=qz 0 (E_z89.cutb 0) (kSeq (evCP E_z89 (evLP E_z89 n) (sub C_z89 [1,1])) (kFnP E_z89 R_z89))
def qrh (s0:List Int) (v1:Int) (s7:Int) (s8:Int):Fr:=frOf [(0,(.dat (.sl (.int .i32)) s0 none)),(1,(di v1 none)),(7,dc s7),(8,dc s8)]
theorem qvd (K:Ex→Fr→Option AV):∀ (n:Nat) (s0:List Int) (v1:Int) (s7:Int) (s8:Int),evLP E_z89 n (sub C_z89 [1,0,1,0,0]) K (qrh s0 v1 s7 s8)=qlD (qmQ K) (K (.exit 0) (frOf [])) n s0 v1 s7 s8:=by
 intro n;induction n with
 | zero=>intros; rfl
 | succ n IH =>
 intro s0 v1 s7 s8;have ih:(fun s0 v1 s7 s8=>evLP E_z89 n (sub C_z89 [1,0,1,0,0]) K (qrh s0 v1 s7 s8))=qlD (qmQ K) (K (.exit 0) (frOf [])) n:=by
  funext s0 v1 s7 s8;exact IH s0 v1 s7 s8
 show _=qeo (qmQ K) (K (.exit 0) (frOf [])) (qlD (qmQ K) (K (.exit 0) (frOf [])) n) n s0 v1 s7 s8;rw [← ih];kernel_rfl
theorem qoQ (n:Nat)  : (qmR n) (.exit 0) (frOf [])=qgD n  := by
 kernel_rfl
theorem qFp (n:Nat) (s0:List Int) (o0:Lab) (v1:Int) (o1:Lab):evFnP E_z89 n C_z89 R_z89 [.dat (.sl (.int .i32)) s0 o0,di v1 o1]=qwO n s0 v1:=by
 unfold qwO;rw [show qlD qkz (qgD n) n=(fun s0 v1 s7 s8=>evLP E_z89 n (sub C_z89 [1,0,1,0,0]) (qmR n) (qrh s0 v1 s7 s8)) from by
  funext s0 v1 s7 s8;refine Eq.trans ?_ (qvd (qmR n) n s0 v1 s7 s8).symm;rw [show ((qmR n) (.exit 0) (frOf []))=(qgD n) from by
   exact qoQ n ]
  all_goals kernel_rfl]
 kernel_rfl
theorem qmS:qh G Tryz.prog 89 s_z89:=by
 refine sQ (E:=E_z89) (c:=C_z89) rfl (fun w S hg=>qc) Tryz.func89 ?_;intro avs r h;unfold s_z89 at h;split at h
 ·obtain ⟨hp,rfl⟩:=yj h;obtain ⟨n,hn⟩:=qBy _ _ hp;exact ⟨n,_,(qFp n _ _ _ _).trans hn,.inl rfl⟩
 ·cases h
def qCP:EnvP:=⟨⟨tiOf tis,fnsOf [],cnsOf [],[],4,(fun _=>none),(fun _=>none),some [0]⟩,fun _=>none,fun _=>none,(fun x=>if x=500002 then [1] else []),fun _=>none,fun _=>none,fun _=>none,fun _=>none⟩
def qCQ:Code:=cO Tryz.f131
def qFq:Array ResultVar:=Tryz.f131.results
theorem qCR (n:Nat)  : evFnP qCP n qCQ qFq []=qyh n  := by
 kernel_rfl
theorem qri:qh G Tryz.prog 131 s_z131:=by
 refine qO G_stays (E:=qCP) (fn:=Tryz.f131) (c:=qCQ) (qn rfl qeh) (fun w S hg=>⟨⟨qc,fun f sp h=>qbF f sp h w S⟩,qfh w S hg,(fun _ _ h=>by cases h),(fun f sp h=>qhl f sp h),(fun f it h=>qhm f it h),(fun t kt vt h=>qdb t kt vt h)⟩) follows Tryz.func131 (by kernel_rfl) (by kernel_rfl) (by kernel_rfl) ?_;intro avs r h;unfold s_z131 at h;split at h <;> cases h
 obtain ⟨n,hn⟩:=qxw;exact ⟨n,_,(qCR n ).trans hn,.inl rfl⟩
def qCS:EnvP:=eQ [(89,s_z89),(131,s_z131)] 31 (some [2,3]) nC (fun x=>if x=0 then some [0] else none) nP
def qCT:Code:=cO Tryz.f115
def qFr:Array ResultVar:=Tryz.f115.results
theorem qCU (n:Nat) (c0:Int) (o0:Lab):evFnP qCS n qCT qFr [di c0 o0]=qsU n c0:=by
 kernel_rfl
theorem qjT:qh G Tryz.prog 115 s_z115:=by
 refine sQ (E:=qCS) (c:=qCT) rfl (fun w S hg=>(qb (qmS w S hg) (qb (qri w S hg) qc))) Tryz.func115 ?_;intro avs r h;unfold s_z115 at h;split at h <;> cases h
 obtain ⟨n,hn⟩:=qxG _;exact ⟨n,_,(qCU n _ _).trans hn,.inl rfl⟩
def qCV:EnvP:=eQ [(115,s_z115)] 11 (some [2]) nC nC nP
def qCW:Code:=cO Tryz.f107
def qFs:Array ResultVar:=Tryz.f107.results
theorem qCX (n:Nat) (c0:Int) (o0:Lab):evFnP qCV n qCW qFs [di c0 o0]=qyi n c0:=by
 kernel_rfl
theorem qjU:qh G Tryz.prog 107 s_z107:=by
 refine sQ (E:=qCV) (c:=qCW) rfl (fun w S hg=>(qb (qjT w S hg) qc)) Tryz.func107 ?_;intro avs r h;unfold s_z107 at h;split at h <;> cases h
 obtain ⟨n,hn⟩:=qxH _;exact ⟨n,_,(qCX n _ _).trans hn,.inl rfl⟩
def qCY:EnvP:=eQ [] 9 (some [2]) nC nC nP
def qCZ:Code:=cO Tryz.f127
def qFt:Array ResultVar:=Tryz.f127.results
theorem qDa (n:Nat) (c0:Int) (o0:Lab):evFnP qCY n qCZ qFt [di c0 o0]=qsW n c0:=by
 kernel_rfl
theorem qrj:qh G Tryz.prog 127 s_z127:=by
 refine sQ (E:=qCY) (c:=qCZ) rfl (fun w S hg=>qc) Tryz.func127 ?_;intro avs r h;unfold s_z127 at h;split at h <;> cases h
 obtain ⟨n,hn⟩:=qxx _;exact ⟨n,_,(qDa n _ _).trans hn,.inl rfl⟩
def qDb:EnvP:=eQ [(127,s_z127)] 11 (some [2]) nC nC nP
def qDc:Code:=cO Tryz.f108
def qFu:Array ResultVar:=Tryz.f108.results
theorem qDd (n:Nat) (c0:Int) (o0:Lab):evFnP qDb n qDc qFu [di c0 o0]=qsX n c0:=by
 kernel_rfl
theorem qgv:qh G Tryz.prog 108 s_z108:=by
 refine sQ (E:=qDb) (c:=qDc) rfl (fun w S hg=>(qb (qrj w S hg) qc)) Tryz.func108 ?_;intro avs r h;unfold s_z108 at h;split at h <;> cases h
 obtain ⟨n,hn⟩:=qxy _;exact ⟨n,_,(qDd n _ _).trans hn,.inl rfl⟩
end
end Go.Av
