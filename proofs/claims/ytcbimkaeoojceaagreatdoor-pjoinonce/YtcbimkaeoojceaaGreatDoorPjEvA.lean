import Derived.Test.YtcbimkaeoojceaaGreatDoorPjP7
import Derived.Test.YtcbimkaeoojceaaGreatDoorPjU
import Derived.Test.YtcbimkaeoojceaaGreatDoorProg
import Derived.KernelRfl
namespace Go.Av
set_option linter.unusedSimpArgs false
noncomputable section
open Go.Proofs
set_option maxRecDepth 100000
set_option linter.unusedVariables false
def tis:List (TypeId×TI):=[(2,⟨some (.int .i64),8,0⟩),
 (3,⟨some (.int .i64),8,0⟩),
 (4,⟨some .bool,1,0⟩),
 (5,⟨some .byte,1,0⟩),
 (6,⟨some .byte,1,0⟩),
 (7,⟨some (.pair (.int .i64) (.pair (.int .i64) (.pair .bool (.pair .byte .unit)))),24,0⟩),
 (8,⟨some (.pair (.int .i64) (.pair (.int .i64) (.pair .bool (.pair .byte .unit)))),24,0⟩),
 (9,⟨some .str,16,0⟩),
 (10,⟨some .str,16,0⟩),
 (11,⟨some .str,16,0⟩),
 (12,⟨some (.int .u64),8,0⟩),
 (13,⟨some (.pair .str (.pair (.int .u64) .unit)),24,0⟩),
 (14,⟨some (.pair .str (.pair (.int .u64) .unit)),24,0⟩),
 (21,⟨some (.int .i32),4,0⟩),
 (22,⟨some (.sl .byte),24,5⟩),
 (23,⟨some (.sl (.int .i32)),24,21⟩),
 (27,⟨some (.sl (.pair (.sl .byte) (.pair (.sl (.int .i32)) .unit))),24,31⟩),
 (30,⟨some (.pair (.sl .byte) (.pair (.sl (.int .i32)) .unit)),48,0⟩),
 (31,⟨some (.pair (.sl .byte) (.pair (.sl (.int .i32)) .unit)),48,0⟩),
 (39,⟨some (.sl (.sl .byte)),24,22⟩),
 (43,⟨some (.sl (.pair (.sl .byte) (.pair (.int .i64) (.pair .bool (.pair (.sl .byte) .unit))))),24,59⟩),
 (58,⟨some (.pair (.sl .byte) (.pair (.int .i64) (.pair .bool (.pair (.sl .byte) .unit)))),64,0⟩),
 (59,⟨some (.pair (.sl .byte) (.pair (.int .i64) (.pair .bool (.pair (.sl .byte) .unit)))),64,0⟩),
 (60,⟨some (.sl (.int .i64)),24,3⟩),
 (64,⟨some (.int .i64),8,0⟩),
 (71,⟨some (.pair (.sl .byte) (.pair (.int .i64) (.pair .bool (.pair (.sl .byte) .unit)))),64,0⟩),
 (72,⟨some (.sl .str),24,9⟩),
 (122,⟨some (.pair (.int .i64) (.pair (.int .i64) (.pair .bool .unit))),24,0⟩),
 (123,⟨some (.pair (.int .i64) (.pair (.int .i64) (.pair .bool .unit))),24,0⟩),
 (127,⟨some (.int .u64),8,0⟩),
 (130,⟨some (.pair .byte (.pair (.int .i32) .unit)),8,0⟩),
 (131,⟨some (.pair .byte (.pair (.int .i32) .unit)),8,0⟩),
 (132,⟨some (.arr 8 (.pair .byte (.pair (.int .i32) .unit))),64,131⟩),
 (136,⟨some (.int .u32),4,0⟩),
 (140,⟨some (.arr 256 .bool),256,4⟩),
 (141,⟨some (.arr 256 .bool),256,4⟩),
 (147,⟨some (.arr 32 (.int .i32)),128,21⟩),
 (154,⟨some (.arr 256 .byte),256,5⟩),
 (155,⟨some (.pair .byte (.pair .byte .unit)),2,0⟩),
 (156,⟨some (.pair .byte (.pair .byte .unit)),2,0⟩),
 (157,⟨some (.arr 16 (.pair .byte (.pair .byte .unit))),32,156⟩),
 (165,⟨some .byte,1,0⟩),
 (166,⟨some .byte,1,0⟩),
 (169,⟨some (.int .i32),4,0⟩),
 (170,⟨some (.int .i32),4,0⟩)]
theorem qbZ:(tis.all fun p=>tyB Tryz.prog (tiOf tis) p.1)=true:=by kernel_rfl
theorem follows:Tryz.prog.follows .mixedOrders=true:=by kernel_rfl
abbrev FnL:=List (FuncId×(List AV→Bool×AV))
abbrev CutL:=Nat→Option (List Nat)
def eQ (l:FnL) (nt:Nat) (r:Option (List Nat)) (a b:CutL) (p:Nat→Option PSh):EnvP:=⟨⟨tiOf tis,fnsOf l,cnsOf [],[],nt,a,b,r⟩,p,fun _=>none,fun _=>[],fun _=>none,fun _=>none,fun _=>none,fun _=>none⟩
def cO (f:Func):Code:=f.body.getD .skip
def nC:CutL:=fun _=>none
def nP:Nat→Option PSh:=fun _=>none
theorem sQ {E:EnvP} {l:FnL} {nt:Nat} {r:Option (List Nat)} {a b:CutL} {p:Nat→Option PSh} {f:FuncId} {fn:Func} {c:Code} {spec:List AV→Bool×AV} (hE:E=eQ l nt r a b p) (hl:∀ w S,G w S→∀ f,qbx Tryz.prog f (fnsOf l f) w S)
 (hf:Tryz.prog.funcs[f]? = some fn) (hspec:∀ avs r',spec avs=(true,r')→∃ n v,evFnP E n c fn.results avs=some v∧(v=r'∨v.strip=r')) (hb:fn.body=some c:=by kernel_rfl) (hnt:fn.ntmps=nt:=by kernel_rfl) (hname:(fn.name == "runtime.NumGoroutine")=false:=by kernel_rfl):ql G Tryz.prog f spec:=by
 subst hE;exact qK G_stays (E:=eQ l nt r a b p) (qo rfl qbZ) (fun w S hg=>⟨⟨hl w S hg,fun f sp h=>qaJ f sp h w S⟩,qaL w S hg,(fun _ _ h=>by cases h),(fun f sp h=>qbj f sp h),(fun f it h=>qbk f it h),(fun t kt vt h=>qaK t kt vt h)⟩) follows hf hb hnt hname hspec
def s_z43:List AV→Bool×AV
 | [db a0 _]=>(qbY a0,(db (z43 a0) (some (0,5))))
 | _=>(false,.bad)
def s_z44:List AV→Bool×AV
 | [di a0 _]=>(true,(di (z44 a0) none))
 | _=>(false,.bad)
def s_z28:List AV→Bool×AV
 | [db a0 _]=>(qfm a0,(db (z28 a0) (some (2,5))))
 | _=>(false,.bad)
def s_z33:List AV→Bool×AV
 | [db a0 _,db a1 _]=>(true,(dh (z33 a0 a1) none))
 | _=>(false,.bad)
def s_z19:List AV→Bool×AV
 | [db a0 _,db a1 _]=>(qlC a0 a1,(dh (z19 a0 a1) none))
 | _=>(false,.bad)
def s_z29:List AV→Bool×AV
 | [.dat (.sl (.pair (.sl .byte) (.pair (.int .i64) (.pair .bool (.pair (.sl .byte) .unit))))) a0 _,db a1 _]=>(qqi a0 a1,(.dat (.sl (.int .i64)) (z29 a0 a1) none))
 | _=>(false,.bad)
def s_z111:List AV→Bool×AV
 | [db a0 _,di a1 _]=>(true,(de (z111 a0 a1) none))
 | _=>(false,.bad)
def s_z91:List AV→Bool×AV
 | [db a0 _,di a1 _]=>(true,(de (z91 a0 a1) none))
 | _=>(false,.bad)
def s_z89:List AV→Bool×AV
 | [db a0 _,db a1 _]=>(qrR a0 a1,(de (z89 a0 a1) none))
 | _=>(false,.bad)
def s_z65:List AV→Bool×AV
 | [db a0 _,db a1 _]=>(qkj a0 a1,(.tup [(db ((z65 a0 a1).1) none),(db ((z65 a0 a1).2.1) none),(dh ((z65 a0 a1).2.2) none)]))
 | _=>(false,.bad)
def s_z46:List AV→Bool×AV
 | [db a0 _]=>(qxs a0,(.tup [(db ((z46 a0).1) none),(db ((z46 a0).2.1) none),(dh ((z46 a0).2.2) none)]))
 | _=>(false,.bad)
def s_z90:List AV→Bool×AV
 | [de a0 _]=>(true,(.dat (.sl .str) (z90 a0) (some (2,9))))
 | _=>(false,.bad)
def s_z66:List AV→Bool×AV
 | []=>(true,(.abs (.sl (.pair .str (.int .i64))) (qen .str (.int .i64)) z66))
 | _=>(false,.bad)
def s_z123:List AV→Bool×AV
 | [db a0 _,di a1 _]=>(qrS a0 a1,(db (z123 a0 a1) none))
 | _=>(false,.bad)
def s_z124:List AV→Bool×AV
 | [db a0 _,di a1 _]=>(qrT a0 a1,(db (z124 a0 a1) none))
 | _=>(false,.bad)
def s_z125:List AV→Bool×AV
 | [df a0 _]=>(qgx a0,(.tup [(.dat (.arr 256 .bool) ((z125 a0).1) none),(dh ((z125 a0).2) none)]))
 | _=>(false,.bad)
def s_z134:List AV→Bool×AV
 | [.adr (.arr 256 .bool) a0,di a1 _]=>(true,(dh (z134 a0 a1) none))
 | _=>(false,.bad)
def s_z126:List AV→Bool×AV
 | [db a0 _,.adr (.arr 256 .bool) a1]=>(qkk a0 a1,(db (z126 a0 a1) none))
 | _=>(false,.bad)
def s_z127:List AV→Bool×AV
 | [db a0 _,.adr (.arr 256 .bool) a1]=>(qkl a0 a1,(db (z127 a0 a1) none))
 | _=>(false,.bad)
def s_z128:List AV→Bool×AV
 | [db a0 _,df a1 _]=>(qrU a0 a1,(db (z128 a0 a1) none))
 | _=>(false,.bad)
def s_z129:List AV→Bool×AV
 | [db a0 _,df a1 _]=>(qrV a0 a1,(db (z129 a0 a1) none))
 | _=>(false,.bad)
def s_z112:List AV→Bool×AV
 | [db a0 _,df a1 _]=>(qhy a0 a1,(db (z112 a0 a1) none))
 | _=>(false,.bad)
def s_z92:List AV→Bool×AV
 | [db a0 _]=>(qpF a0,(db (z92 a0) (some (2,5))))
 | _=>(false,.bad)
def s_z67:List AV→Bool×AV
 | [db a0 _]=>(qvJ a0,(db (z67 a0) (some (2,5))))
 | _=>(false,.bad)
def s_z47:List AV→Bool×AV
 | [db a0 _]=>(qvL a0,(.tup [(de ((z47 a0).1) none),(de ((z47 a0).2) none)]))
 | _=>(false,.bad)
def s_z48:List AV→Bool×AV
 | [db a0 _]=>(qlX a0,(db (z48 a0) (some (0,5))))
 | _=>(false,.bad)
def s_z94:List AV→Bool×AV
 | [di a0 _,dh a1 _,.pbox (.osl 5 .byte) a2 none]=>((qtg a0 a1 a2),.tup [(.tup []),.bad,.bad,(.pbox (.osl 5 .byte) (z94 a0 a1 a2) none)])
 | _=>(false,.bad)
def s_z119:List AV→Bool×AV
 | [di a0 _]=>(true,(de (z119 a0) none))
 | _=>(false,.bad)
def s_z142:List AV→Bool×AV
 | [df a0 _,di a1 _]=>(true,(de (z142 a0 a1) none))
 | _=>(false,.bad)
def s_z139:List AV→Bool×AV
 | [df a0 _,di a1 _]=>(true,(de (z139 a0 a1) none))
 | _=>(false,.bad)
def s_z133:List AV→Bool×AV
 | [df a0 _,di a1 _]=>(true,(de (z133 a0 a1) none))
 | _=>(false,.bad)
def s_z120:List AV→Bool×AV
 | [df a0 _,di a1 _]=>(true,(dh (z120 a0 a1) none))
 | _=>(false,.bad)
def s_z99:List AV→Bool×AV
 | [di a0 _]=>(true,(de (z99 a0) none))
 | _=>(false,.bad)
def s_z77:List AV→Bool×AV
 | [di a0 _,de a1 _]=>(true,(dh (z77 a0 a1) none))
 | _=>(false,.bad)
def s_z138:List AV→Bool×AV
 | [di a0 _]=>(true,(.tup [(de ((z138 a0).1) none),(dh ((z138 a0).2) none)]))
 | _=>(false,.bad)
def s_z130:List AV→Bool×AV
 | [di a0 _,di a1 _]=>(true,(.tup [(di ((z130 a0 a1).1) none),(dh ((z130 a0 a1).2) none)]))
 | _=>(false,.bad)
def s_z113:List AV→Bool×AV
 | [db a0 _,de a1 _,di a2 _]=>(qnp a0 a1 a2,(.tup [(di ((z113 a0 a1 a2).1) none),(dh ((z113 a0 a1 a2).2) none)]))
 | _=>(false,.bad)
def s_z93:List AV→Bool×AV
 | [db a0 _,.fn 94 [.pbox (.osl 5 .byte) a1 none]]=>((qcB a0 a1),.tup [(.tup []),.bad,(.pbox (.osl 5 .byte) (qAj a0 a1) none)])
 | _=>(false,.bad)
def s_z68:List AV→Bool×AV
 | [db a0 _]=>(qxr a0,(db (z68 a0) none))
 | _=>(false,.bad)
def s_z49:List AV→Bool×AV
 | [.dat (.pair (.sl .byte) (.pair (.int .i64) (.pair .bool (.pair (.sl .byte) .unit)))) a0 _]=>(qho a0,(db (z49 a0) none))
 | _=>(false,.bad)
def s_z74:List AV→Bool×AV
 | [.dat (.int .i32) a0 _,de a1 _,.pbox (.osl 21 (.int .i32)) a2 none]=>((qvM a0 a1 a2),.tup [(.tup []),.bad,.bad,(.pbox (.osl 21 (.int .i32)) (z74 a0 a1 a2) none)])
 | _=>(false,.bad)
def s_z117:List AV→Bool×AV
 | [di a0 _]=>(true,(de (z117 a0) none))
 | _=>(false,.bad)
def s_z131:List AV→Bool×AV
 | [di a0 _]=>(true,(dh (z131 a0) none))
 | _=>(false,.bad)
def s_z132:List AV→Bool×AV
 | [di a0 _,di a1 _]=>(true,(dh (z132 a0 a1) none))
 | _=>(false,.bad)
def s_z116:List AV→Bool×AV
 | [db a0 _]=>(qhx a0,(de (z116 a0) none))
 | _=>(false,.bad)
def s_z118:List AV→Bool×AV
 | [de a0 _]=>(true,(di (z118 a0) none))
 | _=>(false,.bad)
def s_z98:List AV→Bool×AV
 | [db a0 _]=>(qvE a0,(.tup [(.dat (.int .i32) ((z98 a0).1) none),(de ((z98 a0).2.1) none),(de ((z98 a0).2.2) none)]))
 | _=>(false,.bad)
def s_z73:List AV→Bool×AV
 | [db a0 _,.fn 74 [.pbox (.osl 21 (.int .i32)) a1 none]]=>((qcA a0 a1),.tup [(.tup []),.bad,(.pbox (.osl 21 (.int .i32)) (qzZ a0 a1) none)])
 | _=>(false,.bad)
def s_z51:List AV→Bool×AV
 | [db a0 _]=>(qpB a0,(.dat (.sl (.int .i32)) (z51 a0) none))
 | _=>(false,.bad)
def s_z72:List AV→Bool×AV
 | [db a0 _]=>(qpC a0,(.dat (.sl (.int .i32)) (z72 a0) (some (2,21))))
 | _=>(false,.bad)
def s_z95:List AV→Bool×AV
 | [.dat (.int .i32) a0 _]=>(true,(.dat (.int .i32) (z95 a0) none))
 | _=>(false,.bad)
def s_z69:List AV→Bool×AV
 | [db a0 _]=>(qvH a0,(.dat (.sl (.int .i32)) (z69 a0) (some (2,21))))
 | _=>(false,.bad)
def s_z114:List AV→Bool×AV
 | []=>(true,(.dat (.arr 8 (.pair .byte (.pair (.int .i32) .unit))) z114 none))
 | _=>(false,.bad)
def s_z96:List AV→Bool×AV
 | [di a0 _]=>(true,(.dat (.int .i32) (z96 a0) none))
 | _=>(false,.bad)
def s_z70:List AV→Bool×AV
 | [db a0 _]=>(qvF a0,(.dat (.sl (.int .i32)) (z70 a0) (some (2,21))))
 | _=>(false,.bad)
def s_z115:List AV→Bool×AV
 | []=>(true,(.dat (.sl (.int .i32)) z115 none))
 | _=>(false,.bad)
def s_z97:List AV→Bool×AV
 | [di a0 _]=>(true,(.dat (.int .i32) (z97 a0) none))
 | _=>(false,.bad)
def s_z71:List AV→Bool×AV
 | [db a0 _]=>(qvG a0,(.dat (.sl (.int .i32)) (z71 a0) (some (2,21))))
 | _=>(false,.bad)
def s_z50:List AV→Bool×AV
 | [de a0 _,db a1 _]=>(qvI a0 a1,(.dat (.sl (.int .i32)) (z50 a0 a1) none))
 | _=>(false,.bad)
def s_z30:List AV→Bool×AV
 | [.dat (.sl (.pair (.sl .byte) (.pair (.int .i64) (.pair .bool (.pair (.sl .byte) .unit))))) a0 _]=>(qqj a0,(.dat (.sl (.int .i32)) (z30 a0) none))
 | _=>(false,.bad)
def s_z14:List AV→Bool×AV
 | [.dat (.sl (.pair (.sl .byte) (.pair (.int .i64) (.pair .bool (.pair (.sl .byte) .unit))))) a0 _]=>(qlZ a0,(.dat (.sl (.pair (.sl .byte) (.pair (.sl (.int .i32)) .unit))) (z14 a0) (some (2,31))))
 | _=>(false,.bad)
def s_z76:List AV→Bool×AV
 | [db a0 _,de a1 _]=>(true,(de (z76 a0 a1) none))
 | _=>(false,.bad)
def s_z100:List AV→Bool×AV
 | [.pbox (.ppair (.leaf (.int .i64)) (.ppair (.leaf (.int .i64)) (.ppair (.leaf .bool) (.leaf .unit)))) a0 none,di a1 _]=>((qol a0 a1),.tup [(dh ((z100 a0 a1).1) none),(.pbox (.ppair (.leaf (.int .i64)) (.ppair (.leaf (.int .i64)) (.ppair (.leaf .bool) (.leaf .unit)))) ((z100 a0 a1).2) none),.bad])
 | _=>(false,.bad)
def s_z78:List AV→Bool×AV
 | [db a0 _]=>(qxi a0,(.tup [(de ((z78 a0).1) none),(de ((z78 a0).2) none)]))
 | _=>(false,.bad)
def s_z54:List AV→Bool×AV
 | [db a0 _,de a1 _]=>(qgJ a0 a1,(de (z54 a0 a1) none))
 | _=>(false,.bad)
def s_z75:List AV→Bool×AV
 | [db a0 _]=>(qqg a0,(.tup [(db ((z75 a0).1) none),(de ((z75 a0).2.1) none),(de ((z75 a0).2.2) none)]))
 | _=>(false,.bad)
def s_z52:List AV→Bool×AV
 | [db a0 _]=>(qqh a0,(de (z52 a0) none))
 | _=>(false,.bad)
def s_z31:List AV→Bool×AV
 | [db a0 _]=>(qxl a0,(.dat (.sl (.sl .byte)) (z31 a0) (some (2,22))))
 | _=>(false,.bad)
def s_z53:List AV→Bool×AV
 | [db a0 _,de a1 _]=>(qlY a0 a1,(.tup [(db ((z53 a0 a1).1) none),(de ((z53 a0 a1).2.1) none),(de ((z53 a0 a1).2.2) none)]))
 | _=>(false,.bad)
def s_z55:List AV→Bool×AV
 | [db a0 _,de a1 _,di a2 _]=>(qxj a0 a1 a2,(.tup [(de ((z55 a0 a1 a2).1) none),(dh ((z55 a0 a1 a2).2) none)]))
 | _=>(false,.bad)
def s_z56:List AV→Bool×AV
 | [db a0 _,de a1 _]=>(qxk a0 a1,(.tup [(db ((z56 a0 a1).1) none),(de ((z56 a0 a1).2.1) none),(de ((z56 a0 a1).2.2) none)]))
 | _=>(false,.bad)
def s_z57:List AV→Bool×AV
 | [db a0 _]=>(qxo a0,(dh (z57 a0) none))
 | _=>(false,.bad)
def s_z101:List AV→Bool×AV
 | [db a0 _,de a1 _]=>(qnt a0 a1,(de (z101 a0 a1) none))
 | _=>(false,.bad)
def s_z79:List AV→Bool×AV
 | [db a0 _,de a1 _]=>(qpE a0 a1,(dh (z79 a0 a1) none))
 | _=>(false,.bad)
def s_z102:List AV→Bool×AV
 | [db a0 _,db a1 _]=>(qnq a0 a1,(dh (z102 a0 a1) none))
 | _=>(false,.bad)
def s_z80:List AV→Bool×AV
 | [db a0 _,db a1 _]=>(qxh a0 a1,(.tup [(db ((z80 a0 a1).1) none),(dh ((z80 a0 a1).2) none)]))
 | _=>(false,.bad)
def s_z81:List AV→Bool×AV
 | [db a0 _]=>(qxm a0,(de (z81 a0) none))
 | _=>(false,.bad)
def s_z58:List AV→Bool×AV
 | [db a0 _]=>(qxn a0,(.tup [(db ((z58 a0).1) none),(de ((z58 a0).2.1) none),(dh ((z58 a0).2.2) none)]))
 | _=>(false,.bad)
def s_z32:List AV→Bool×AV
 | [db a0 _]=>(qxp a0,(.tup [(.dat (.pair (.sl .byte) (.pair (.int .i64) (.pair .bool (.pair (.sl .byte) .unit)))) ((z32 a0).1) none),(de ((z32 a0).2) none)]))
 | _=>(false,.bad)
def s_z15:List AV→Bool×AV
 | [db a0 _]=>(qxq a0,(.dat (.sl (.pair (.sl .byte) (.pair (.int .i64) (.pair .bool (.pair (.sl .byte) .unit))))) (z15 a0) (some (2,59))))
 | _=>(false,.bad)
def s_z7:List AV→Bool×AV
 | [db a0 _]=>(z7_ok a0,(.dat (.sl (.pair (.sl .byte) (.pair (.sl (.int .i32)) .unit))) (z7 a0) (some (2,31))))
 | _=>(false,.bad)
def s_z10:List AV→Bool×AV
 | [.dat (.sl (.int .i32)) a0 _,.dat (.sl (.int .i32)) a1 _]=>(qpD a0 a1,(dh (z10 a0 a1) none))
 | _=>(false,.bad)
def s_z18:List AV→Bool×AV
 | [.dat (.pair (.sl .byte) (.pair (.sl (.int .i32)) .unit)) a0 _,.pbox (.leaf (.sl .byte)) a1 none]=>((qth a0 a1),.tup [(dh ((z18 a0 a1).1) none),.bad,(.pbox (.leaf (.sl .byte)) ((z18 a0 a1).2) none)])
 | _=>(false,.bad)
def s_z17:List AV→Bool×AV
 | [.dat (.sl (.pair (.sl .byte) (.pair (.sl (.int .i32)) .unit))) a0 _,.fn 18 [.pbox (.leaf (.sl .byte)) a1 none]]=>((qdO a0 a1),.tup [(de ((qgK a0 a1).1) none),.bad,(.pbox (.leaf (.sl .byte)) ((qgK a0 a1).2) none)])
 | _=>(false,.bad)
def s_z20:List AV→Bool×AV
 | [.dat (.sl (.int .i32)) a0 _]=>(qzT a0,(.dat (.sl (.int .i32)) (z20 a0) none))
 | _=>(false,.bad)
def s_z11:List AV→Bool×AV
 | [.dat (.sl (.pair (.sl .byte) (.pair (.sl (.int .i32)) .unit))) a0 _,db a1 _]=>(qma a0 a1,(.tup [(.dat (.sl (.int .i32)) ((z11 a0 a1).1) none),(dh ((z11 a0 a1).2) none)]))
 | _=>(false,.bad)
def s_z5:List AV→Bool×AV
 | []=>(true,(dg z5))
 | _=>(false,.bad)
def s_z8:List AV→Bool×AV
 | [db a0 _,db a1 _]=>(z8_ok a0 a1,(dh (z8 a0 a1) none))
 | _=>(false,.bad)
def s_z34:List AV→Bool×AV
 | [.dat (.int .i32) a0 _]=>(true,(dh (z34 a0) none))
 | _=>(false,.bad)
def s_z21:List AV→Bool×AV
 | [.dat (.int .i32) a0 _]=>(true,(dh (z21 a0) none))
 | _=>(false,.bad)
def s_z12:List AV→Bool×AV
 | [.dat (.sl (.int .i32)) a0 _]=>(qyq a0,(de (z12 a0) none))
 | _=>(false,.bad)
def s_z4:List AV→Bool×AV
 | [db a0 _]=>(true,(dh (z4 a0) none))
 | _=>(false,.bad)
theorem qsb:ql G Tryz.prog 142 s_z142:=fun w S hg vals avs r h hS ha=>by
 unfold s_z142 at h;split at h
 ·simp only [yb,true_and] at h;subst h;exact qqk Tryz.func142 (by kernel_rfl) (by kernel_rfl) (by kernel_rfl) (by kernel_rfl) hS ha
 ·cases h
theorem qdN:ql G Tryz.prog 43 s_z43:=fun w S hg vals avs r h hS ha=>by
 unfold s_z43 at h;split at h
 ·obtain ⟨hp,rfl⟩:=yj h;exact qtj hS ha (qm hp)
 ·cases h
theorem qvV:ql G Tryz.prog 48 s_z48:=fun w S hg vals avs r h hS ha=>by
 unfold s_z48 at h;split at h
 ·obtain ⟨hp,rfl⟩:=yj h;exact qtk hS ha (qm hp)
 ·cases h
theorem qvW:ql G Tryz.prog 20 s_z20:=fun w S hg vals avs r h hS ha=>by
 unfold s_z20 at h;split at h
 ·obtain ⟨hp,rfl⟩:=yj h;exact qtl hS ha (qm hp)
 ·cases h
theorem qsc:ql G Tryz.prog 111 s_z111:=fun w S hg vals avs r h hS ha=>by
 unfold s_z111 at h;split at h
 ·simp only [yb,true_and] at h;subst h;exact qql hS ha
 ·cases h
theorem qsd:ql G Tryz.prog 128 s_z128:=fun w S hg vals avs r h hS ha=>by
 unfold s_z128 at h;split at h
 ·simp only [yb] at h;cases h.1
 ·cases h
theorem qse:ql G Tryz.prog 129 s_z129:=fun w S hg vals avs r h hS ha=>by
 unfold s_z129 at h;split at h
 ·simp only [yb] at h;cases h.1
 ·cases h
def E_z44:EnvP:=eQ [] 12 (some [2]) nC nC nP
def C_z44:Code:=cO Tryz.f44
def R_z44:Array ResultVar:=Tryz.f44.results
theorem qFp (n:Nat) (c0:UInt8) (o0:Lab):evFnP E_z44 n C_z44 R_z44 [di c0 o0]=qAX n c0:=by
 kernel_rfl
theorem qnw:ql G Tryz.prog 44 s_z44:=by
 refine sQ (E:=E_z44) (c:=C_z44) rfl (fun w S hg=>qf) Tryz.func44 ?_;intro avs r h;unfold s_z44 at h;split at h <;> cases h
 obtain ⟨n,hn⟩:=qBS _;exact ⟨n,_,(qFp n _ _).trans hn,.inl rfl⟩
def E_z28:EnvP:=eQ [(43,s_z43),(44,s_z44)] 22 (some [2]) (fun x=>if x=3 then some [3,8,9,10] else none) (fun x=>if x=0 then some [3] else if x=1 then some [3,8,9,10] else none) (fun x=>if x=7 then some (.psl 5 (.leaf .byte)) else none)
def C_z28:Code:=cO Tryz.f28
def R_z28:Array ResultVar:=Tryz.f28.results
noncomputable def qkm (K:Ex→Fr→Option AV):=fun out3=>K (.exit 0) (frOf [(3,(.pv (.psl 5 (.leaf .byte)) out3 none))])
def qnx (n:Nat):Ex→Fr→Option AV:=qw 0 (E_z28.cutb 0) (kSeq (evCP E_z28 (evLP E_z28 n) (sub C_z28 [1,1,1])) (kFnP E_z28 R_z28))
def qsf (out3:List UInt8) (s9:Int) (s10:Int):Fr:=frOf [(3,(.pv (.psl 5 (.leaf .byte)) out3 none)),(8,(.pval 3 [])),(9,dc s9),(10,dc s10)]
theorem qvX (K:Ex→Fr→Option AV):∀ (n:Nat) (out3:List UInt8) (s9:Int) (s10:Int),evLP E_z28 n (sub C_z28 [1,1,0,1,0,0]) K (qsf out3 s9 s10)=qjg (qkm K) n out3 s9 s10:=by
 intro n;induction n with
 | zero=>intros; rfl
 | succ n IH =>
 intro out3 s9 s10;have ih:(fun out3 s9 s10=>evLP E_z28 n (sub C_z28 [1,1,0,1,0,0]) K (qsf out3 s9 s10))=qjg (qkm K) n:=by
  funext out3 s9 s10;exact IH out3 s9 s10
 show _=qex (qkm K) (qjg (qkm K) n) n out3 s9 s10;rw [← ih];kernel_rfl
theorem qpI (n:Nat) (out3:List UInt8):(qnx n) (.exit 0) (frOf [(3,(.pv (.psl 5 (.leaf .byte)) out3 none))])=qgO n out3:=by
 kernel_rfl
theorem qFq (n:Nat) (s0:List UInt8) (o0:Lab):evFnP E_z28 n C_z28 R_z28 [db s0 o0]=qxy n s0:=by
 unfold qxy;rw [show qjg (qgO n) n=(fun out3 s9 s10=>evLP E_z28 n (sub C_z28 [1,1,0,1,0,0]) (qnx n) (qsf out3 s9 s10)) from by
  funext out3 s9 s10;refine Eq.trans ?_ (qvX (qnx n) n out3 s9 s10).symm;rw [show (qkm (qnx n))=(qgO n) from by
   funext out3;exact qpI n out3]
  all_goals kernel_rfl]
 kernel_rfl
theorem qfz:ql G Tryz.prog 28 s_z28:=by
 refine sQ (E:=E_z28) (c:=C_z28) rfl (fun w S hg=>(qb (qdN w S hg) (qb (qnw w S hg) qf))) Tryz.func28 ?_;intro avs r h;unfold s_z28 at h;split at h
 ·obtain ⟨hp,rfl⟩:=yj h;obtain ⟨n,hn⟩:=qBT _ hp;exact ⟨n,_,(qFq n _ _).trans hn,.inl rfl⟩
 ·cases h
def E_z33:EnvP:=eQ [] 10 (some [4]) nC nC nP
def C_z33:Code:=cO Tryz.f33
def R_z33:Array ResultVar:=Tryz.f33.results
theorem qFr (n:Nat) (a0:List UInt8) (o0:Lab) (b1:List UInt8) (o1:Lab):evFnP E_z33 n C_z33 R_z33 [db a0 o0,db b1 o1]=qEP n a0 b1:=by
 kernel_rfl
theorem qny:ql G Tryz.prog 33 s_z33:=by
 refine sQ (E:=E_z33) (c:=C_z33) rfl (fun w S hg=>qf) Tryz.func33 ?_;intro avs r h;unfold s_z33 at h;split at h <;> cases h
 obtain ⟨n,hn⟩:=qBU _ _;exact ⟨n,_,(qFr n _ _ _ _).trans hn,.inl rfl⟩
def E_z19:EnvP:=eQ [(28,s_z28),(33,s_z33)] 10 (some [4]) nC nC nP
def C_z19:Code:=cO Tryz.f19
def R_z19:Array ResultVar:=Tryz.f19.results
theorem qFs (n:Nat) (a0:List UInt8) (o0:Lab) (b1:List UInt8) (o1:Lab):evFnP E_z19 n C_z19 R_z19 [db a0 o0,db b1 o1]=qAY n a0 b1:=by
 kernel_rfl
theorem qnz:ql G Tryz.prog 19 s_z19:=by
 refine sQ (E:=E_z19) (c:=C_z19) rfl (fun w S hg=>(qb (qfz w S hg) (qb (qny w S hg) qf))) Tryz.func19 ?_;intro avs r h;unfold s_z19 at h;split at h
 ·obtain ⟨hp,rfl⟩:=yj h;obtain ⟨n,hn⟩:=qCk _ _ hp;exact ⟨n,_,(qFs n _ _ _ _).trans hn,.inl rfl⟩
 ·cases h
theorem qvY:ql G Tryz.prog 29 s_z29:=fun w S hg vals avs r h hS ha=>by
 unfold s_z29 at h;split at h
 ·obtain ⟨hp,rfl⟩:=yj h;exact qqw qnz (fun _ _ _ _=>rfl) hS ha hp
 ·cases h
def E_z91:EnvP:=eQ [(111,s_z111)] 8 (some [4]) nC nC nP
def C_z91:Code:=cO Tryz.f91
def R_z91:Array ResultVar:=Tryz.f91.results
theorem qFt (n:Nat) (b0:List UInt8) (o0:Lab) (c1:UInt8) (o1:Lab):evFnP E_z91 n C_z91 R_z91 [db b0 o0,di c1 o1]=qEQ n b0 c1:=by
 kernel_rfl
theorem qnA:ql G Tryz.prog 91 s_z91:=by
 refine sQ (E:=E_z91) (c:=C_z91) rfl (fun w S hg=>(qb (qsc w S hg) qf)) Tryz.func91 ?_;intro avs r h;unfold s_z91 at h;split at h <;> cases h
 obtain ⟨n,hn⟩:=qBW _ _;exact ⟨n,_,(qFt n _ _ _ _).trans hn,.inl rfl⟩
theorem qvZ:ql G Tryz.prog 89 s_z89:=fun w S hg vals avs r h hS ha=>by
 unfold s_z89 at h;split at h
 ·obtain ⟨hp,rfl⟩:=yj h;exact qmD qnA (fun _ _ _ _=>rfl) hS ha hp
 ·cases h
def E_z65:EnvP:=eQ [(89,s_z89)] 23 (some [4,1000005,6]) nC nC nP
def C_z65:Code:=cO Tryz.f65
def R_z65:Array ResultVar:=Tryz.f65.results
theorem qFu (n:Nat) (s0:List UInt8) (o0:Lab) (sep1:List UInt8) (o1:Lab):evFnP E_z65 n C_z65 R_z65 [db s0 o0,db sep1 o1]=qAZ n s0 sep1:=by
 kernel_rfl
theorem qnB:ql G Tryz.prog 65 s_z65:=by
 refine sQ (E:=E_z65) (c:=C_z65) rfl (fun w S hg=>(qb (qvZ w S hg) qf)) Tryz.func65 ?_;intro avs r h;unfold s_z65 at h;split at h
 ·obtain ⟨hp,rfl⟩:=yj h;obtain ⟨n,hn⟩:=qCj _ _ hp;exact ⟨n,_,(qFu n _ _ _ _).trans hn,.inl rfl⟩
 ·cases h
def E_z46:EnvP:=eQ [(43,s_z43),(65,s_z65)] 33 (some [2,3,4]) nC nC nP
def C_z46:Code:=cO Tryz.f46
def R_z46:Array ResultVar:=Tryz.f46.results
theorem qFv (n:Nat) (value0:List UInt8) (o0:Lab):evFnP E_z46 n C_z46 R_z46 [db value0 o0]=qBa n value0:=by
 kernel_rfl
theorem qwa:ql G Tryz.prog 46 s_z46:=by
 refine sQ (E:=E_z46) (c:=C_z46) rfl (fun w S hg=>(qb (qdN w S hg) (qb (qnB w S hg) qf))) Tryz.func46 ?_;intro avs r h;unfold s_z46 at h;split at h
 ·obtain ⟨hp,rfl⟩:=yj h;obtain ⟨n,hn⟩:=qAD _ hp;exact ⟨n,_,(qFv n _ _).trans hn,.inl rfl⟩
 ·cases h
def E_z90:EnvP:=eQ [] 19 (some [2]) nC (fun x=>if x=0 then some [] else none) nP
def C_z90:Code:=cO Tryz.f90
def R_z90:Array ResultVar:=Tryz.f90.results
theorem qFw (n:Nat) (charset0:Int) (o0:Lab):evFnP E_z90 n C_z90 R_z90 [de charset0 o0]=qBb n charset0:=by
 kernel_rfl
theorem qwb:ql G Tryz.prog 90 s_z90:=by
 refine sQ (E:=E_z90) (c:=C_z90) rfl (fun w S hg=>qf) Tryz.func90 ?_;intro avs r h;unfold s_z90 at h;split at h <;> cases h
 obtain ⟨n,hn⟩:=qBN _;exact ⟨n,_,(qFw n _ _).trans hn,.inl rfl⟩
def E_z66:EnvP:=⟨⟨tiOf tis,fnsOf [(90,s_z90)],cnsOf [],[],22,(fun x=>if x=3 then some [1,2] else if x=6 then some [1,2,11,12,13] else none),(fun x=>if x=0 then some [1] else if x=1 then some [1,2] else if x=2 then some [1,2] else if x=3 then some [1,2,11,12,13] else none),none⟩,fun _=>none,fun _=>none,fun _=>[],fun _=>none,fun _=>none,fun _=>none,(fun x=>if x=97 then some (9,3) else none)⟩
def C_z66:Code:=cO Tryz.f66
def R_z66:Array ResultVar:=Tryz.f66.results
def qeX (m1:List ((List UInt8)×Int)) (n2:Int):Fr:=frOf [(1,(.abs (.sl (.pair .str (.int .i64))) (qen .str (.int .i64)) m1)),(2,dc n2)]
noncomputable def qkn (K:Ex→Fr→Option AV):=fun m1 n2=>K (.exit 2) (qeX m1 n2)
noncomputable def qgz (K:Ex→Fr→Option AV):=fun m1=>K (.exit 0) (frOf [(1,(.abs (.sl (.pair .str (.int .i64))) (qen .str (.int .i64)) m1))])
def qnC (n:Nat) (K:Ex→Fr→Option AV):Ex→Fr→Option AV:=qw 2 (E_z66.cutb 2) (qw 1 (E_z66.cutb 1) (kSeq (evCP E_z66 (evLP E_z66 n) (sub C_z66 [1,1,0,1,0,0,1,1])) (kSeq (fun K fr=>evLP E_z66 n (sub C_z66 [1,1,0,1,0,0]) K (cutFP (E_z66.cuts 3) fr)) K)))
def qnD (n:Nat):Ex→Fr→Option AV:=qw 0 (E_z66.cutb 0) (kSeq (evCP E_z66 (evLP E_z66 n) (sub C_z66 [1,1,1])) (kFnR R_z66))
def qsg (m1:List ((List UInt8)×Int)) (n2:Int) (s11:List (List UInt8)) (s12:Int) (s13:Int):Fr:=frOf [(1,(.abs (.sl (.pair .str (.int .i64))) (qen .str (.int .i64)) m1)),(2,dc n2),(11,(.dat (.sl .str) s11 (some (11,9)))),(12,dc s12),(13,dc s13)]
theorem qwc (K:Ex→Fr→Option AV):∀ (n:Nat) (m1:List ((List UInt8)×Int)) (n2:Int) (s11:List (List UInt8)) (s12:Int) (s13:Int),evLP E_z66 n (sub C_z66 [1,1,0,1,0,0,1,0,0,1,0,0]) K (qsg m1 n2 s11 s12 s13)=qqq (qkn K) n m1 n2 s11 s12 s13:=by
 intro n;induction n with
 | zero=>intros; rfl
 | succ n IH =>
 intro m1 n2 s11 s12 s13;have ih:(fun m1 n2 s11 s12 s13=>evLP E_z66 n (sub C_z66 [1,1,0,1,0,0,1,0,0,1,0,0]) K (qsg m1 n2 s11 s12 s13))=qqq (qkn K) n:=by
  funext m1 n2 s11 s12 s13;exact IH m1 n2 s11 s12 s13
 show _=qtI (qkn K) (qqq (qkn K) n) n m1 n2 s11 s12 s13;rw [← ih];kernel_rfl
theorem qpJ (K:Ex→Fr→Option AV) (n:Nat) (m1:List ((List UInt8)×Int)) (n2:Int):(qnC n K) (.exit 2) (qeX m1 n2)=qjh (fun m1=>K (.exit 0) (frOf [(1,(.abs (.sl (.pair .str (.int .i64))) (qen .str (.int .i64)) m1))])) (fun m1 n2=>evLP E_z66 n (sub C_z66 [1,1,0,1,0,0]) K (qeX m1 n2)) n m1 n2:=by
 kernel_rfl
theorem qwd (K:Ex→Fr→Option AV):∀ (n:Nat) (m1:List ((List UInt8)×Int)) (n2:Int),evLP E_z66 n (sub C_z66 [1,1,0,1,0,0]) K (qeX m1 n2)=qqr (qgz K) n m1 n2:=by
 intro n;induction n with
 | zero=>intros; rfl
 | succ n IH =>
 intro m1 n2;have ih:(fun m1 n2=>evLP E_z66 n (sub C_z66 [1,1,0,1,0,0]) K (qeX m1 n2))=qqr (qgz K) n:=by
  funext m1 n2;exact IH m1 n2
 show _=qmi (qgz K) (qqr (qgz K) n) n m1 n2;rw [← ih];unfold qmi;rw [show qqq (qjh (qgz K) (fun m1 n2=>evLP E_z66 n (sub C_z66 [1,1,0,1,0,0]) K (qeX m1 n2)) n) n=(fun m1 n2 s11 s12 s13=>evLP E_z66 n (sub C_z66 [1,1,0,1,0,0,1,0,0,1,0,0]) (qnC n K) (qsg m1 n2 s11 s12 s13)) from by
  funext m1 n2 s11 s12 s13;refine Eq.trans ?_ (qwc (qnC n K) n m1 n2 s11 s12 s13).symm;rw [show (qkn (qnC n K))=(qjh (qgz K) (fun m1 n2=>evLP E_z66 n (sub C_z66 [1,1,0,1,0,0]) K (qeX m1 n2)) n) from by
   funext m1 n2;exact qpJ K n m1 n2]
  all_goals kernel_rfl]
 kernel_rfl
theorem qpK (n:Nat) (m1:List ((List UInt8)×Int)):(qnD n) (.exit 0) (frOf [(1,(.abs (.sl (.pair .str (.int .i64))) (qen .str (.int .i64)) m1))])=qji n m1:=by
 kernel_rfl
theorem qFx (n:Nat)  : evFnR E_z66 n C_z66 R_z66 []=qBc n  := by
 unfold qBc;rw [show qqr (qji n) n=(fun m1 n2=>evLP E_z66 n (sub C_z66 [1,1,0,1,0,0]) (qnD n) (qeX m1 n2)) from by
  funext m1 n2;refine Eq.trans ?_ (qwd (qnD n) n m1 n2).symm;rw [show (qgz (qnD n))=(qji n) from by
   funext m1;exact qpK n m1]
  all_goals kernel_rfl]
 kernel_rfl
theorem qwe:qCR G Tryz.prog 66 s_z66:=by
 refine qld G_stays (E:=E_z66) (fn:=Tryz.f66) (c:=C_z66) (qo rfl qbZ) (fun w S hg=>⟨⟨(qb (qwb w S hg) qf),fun f sp h=>qaJ f sp h w S⟩,qaL w S hg,(fun _ _ h=>by cases h),(fun f sp h=>qbj f sp h),(fun f it h=>qbk f it h),(fun t kt vt h=>(qle (by kernel_rfl) qaK) t kt vt h)⟩) follows Tryz.func66 (by kernel_rfl) (by kernel_rfl) (by kernel_rfl) ?_;intro avs r h;unfold s_z66 at h;split at h <;> cases h
 obtain ⟨n,hn⟩:=qCe;exact ⟨n,(qFx n ).trans hn⟩
end
end Go.Av
