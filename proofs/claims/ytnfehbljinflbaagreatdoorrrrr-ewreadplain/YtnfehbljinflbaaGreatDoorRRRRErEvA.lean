import Derived.Test.YtnfehbljinflbaaGreatDoorRRRRErP2
import Derived.Test.YtnfehbljinflbaaGreatDoorRRRREtN
import Derived.Test.YtnfehbljinflbaaGreatDoorRRRRProg
import Derived.KernelRfl
namespace Go.Av
set_option linter.unusedSimpArgs false
noncomputable section
open Go.Proofs
set_option maxRecDepth 100000
set_option linter.unusedVariables false
def tis:List (TypeId×TI):=[(2,⟨some (.int .i64),8,0⟩),
 (3,⟨some (.int .i64),8,0⟩),
 (4,⟨some .bool,1,0⟩),
 (5,⟨some .byte,1,0⟩),
 (6,⟨some .byte,1,0⟩),
 (7,⟨some (.pair (.int .i64) (.pair (.int .i64) (.pair .bool (.pair .byte .unit)))),24,0⟩),
 (8,⟨some (.pair (.int .i64) (.pair (.int .i64) (.pair .bool (.pair .byte .unit)))),24,0⟩),
 (9,⟨some .str,16,0⟩),
 (10,⟨some .str,16,0⟩),
 (11,⟨some .str,16,0⟩),
 (12,⟨some (.int .u64),8,0⟩),
 (13,⟨some (.pair .str (.pair (.int .u64) .unit)),24,0⟩),
 (14,⟨some (.pair .str (.pair (.int .u64) .unit)),24,0⟩),
 (21,⟨some (.int .i32),4,0⟩),
 (22,⟨some (.sl .byte),24,5⟩),
 (25,⟨some (.sl (.int .i32)),24,21⟩),
 (30,⟨some (.sl (.sl (.int .i32))),24,25⟩),
 (31,⟨some (.sl (.int .i64)),24,3⟩),
 (40,⟨some (.pair (.int .i64) (.pair (.sl .byte) .unit)),32,0⟩),
 (41,⟨some (.pair (.int .i64) (.pair (.sl .byte) .unit)),32,0⟩),
 (44,⟨some (.sl (.pair (.int .i64) (.pair (.sl .byte) .unit))),24,46⟩),
 (46,⟨some (.pair (.int .i64) (.pair (.sl .byte) .unit)),32,0⟩),
 (57,⟨some (.sl (.pair (.int .i64) (.pair (.sl .byte) .unit))),24,41⟩),
 (60,⟨some (.pair (.sl .byte) (.pair (.int .i64) (.pair (.sl .byte) .unit))),56,0⟩),
 (61,⟨some (.pair (.sl .byte) (.pair (.int .i64) (.pair (.sl .byte) .unit))),56,0⟩),
 (69,⟨some (.pair (.sl .byte) (.pair (.int .i64) (.pair (.sl .byte) .unit))),56,0⟩),
 (70,⟨some (.int .i64),8,0⟩),
 (79,⟨some (.sl .bool),24,4⟩),
 (85,⟨some (.sl (.sl .byte)),24,22⟩),
 (95,⟨some (.sl .str),24,9⟩),
 (106,⟨some (.int .u64),8,0⟩),
 (116,⟨some (.int .u32),4,0⟩),
 (127,⟨some (.arr 256 .bool),256,4⟩),
 (128,⟨some (.arr 256 .bool),256,4⟩),
 (139,⟨some (.pair .byte (.pair (.int .i32) .unit)),8,0⟩),
 (140,⟨some (.pair .byte (.pair (.int .i32) .unit)),8,0⟩),
 (141,⟨some (.arr 8 (.pair .byte (.pair (.int .i32) .unit))),64,140⟩),
 (149,⟨some (.arr 4 .byte),4,5⟩),
 (150,⟨some (.arr 32 (.int .i32)),128,21⟩),
 (152,⟨some (.arr 256 .byte),256,5⟩),
 (153,⟨some (.pair .byte (.pair .byte .unit)),2,0⟩),
 (154,⟨some (.pair .byte (.pair .byte .unit)),2,0⟩),
 (155,⟨some (.arr 16 (.pair .byte (.pair .byte .unit))),32,154⟩),
 (162,⟨some .byte,1,0⟩),
 (163,⟨some .byte,1,0⟩),
 (166,⟨some (.int .i32),4,0⟩),
 (167,⟨some (.int .i32),4,0⟩)]
theorem qaU:(tis.all fun p=>tyB Tryz.prog (tiOf tis) p.1)=true:=by kernel_rfl
theorem follows:Tryz.prog.follows .mixedOrders=true:=by kernel_rfl
abbrev FnL:=List (FuncId×(List AV→Bool×AV))
abbrev CutL:=Nat→Option (List Nat)
def eQ (l:FnL) (nt:Nat) (r:Option (List Nat)) (a b:CutL) (p:Nat→Option PSh):EnvP:=⟨⟨tiOf tis,fnsOf l,cnsOf [],[],nt,a,b,r⟩,p,fun _=>none,fun _=>[],fun _=>none,fun _=>none,fun _=>none,fun _=>none⟩
def cO (f:Func):Code:=f.body.getD .skip
def nC:CutL:=fun _=>none
def nP:Nat→Option PSh:=fun _=>none
theorem sQ {E:EnvP} {l:FnL} {nt:Nat} {r:Option (List Nat)} {a b:CutL} {p:Nat→Option PSh} {f:FuncId} {fn:Func} {c:Code} {spec:List AV→Bool×AV} (hE:E=eQ l nt r a b p) (hl:∀ w S,G w S→∀ f,qbT Tryz.prog f (fnsOf l f) w S)
 (hf:Tryz.prog.funcs[f]? = some fn) (hspec:∀ avs r',spec avs=(true,r')→∃ n v,evFnP E n c fn.results avs=some v∧(v=r'∨v.strip=r')) (hb:fn.body=some c:=by kernel_rfl) (hnt:fn.ntmps=nt:=by kernel_rfl) (hname:(fn.name == "runtime.NumGoroutine")=false:=by kernel_rfl):qf G Tryz.prog f spec:=by
 subst hE;exact qB G_stays (E:=eQ l nt r a b p) (qe rfl qaU) (fun w S hg=>⟨⟨hl w S hg,fun f sp h=>qZ f sp h w S⟩,qae w S hg,(fun _ _ h=>by cases h),(fun f sp h=>qat f sp h),(fun f it h=>qau f it h),(fun t kt vt h=>qaa t kt vt h)⟩) follows hf hb hnt hname hspec
def s_z8:List AV→Bool×AV
 | [.dat (.sl (.int .i32)) a0 _,.dat (.sl (.int .i32)) a1 _]=>(z8_ok a0 a1,(dh (z8 a0 a1) none))
 | _=>(false,.bad)
def s_z21:List AV→Bool×AV
 | [.dat (.pair (.int .i64) (.pair (.sl .byte) .unit)) a0 _,.dat (.sl (.int .i32)) a1 _,.pbox (.osl 21 (.int .i32)) a2 none]=>((qvD a0 a1 a2),.tup [(.tup []),.bad,.bad,(.pbox (.osl 21 (.int .i32)) (z21 a0 a1 a2) none)])
 | _=>(false,.bad)
def s_z28:List AV→Bool×AV
 | [.dat (.pair (.int .i64) (.pair (.sl .byte) .unit)) a0 _,.dat (.sl (.int .i32)) a1 _,.pbox (.osl 25 (.sl (.int .i32))) a2 none]=>((qvE a0 a1 a2),.tup [(.tup []),.bad,.bad,(.pbox (.osl 25 (.sl (.int .i32))) (z28 a0 a1 a2) none)])
 | _=>(false,.bad)
def s_z123:List AV→Bool×AV
 | [db a0 _,di a1 _]=>(true,(de (z123 a0 a1) none))
 | _=>(false,.bad)
def s_z91:List AV→Bool×AV
 | [db a0 _,di a1 _]=>(true,(de (z91 a0 a1) none))
 | _=>(false,.bad)
def s_z93:List AV→Bool×AV
 | [db a0 _,db a1 _]=>(true,(dh (z93 a0 a1) none))
 | _=>(false,.bad)
def s_z57:List AV→Bool×AV
 | [db a0 _,db a1 _]=>(qmP a0 a1,(de (z57 a0 a1) none))
 | _=>(false,.bad)
def s_z154:List AV→Bool×AV
 | [db a0 _]=>(qmO a0,(.tup [(.dat (.int .i32) ((z154 a0).1) none),(de ((z154 a0).2) none)]))
 | _=>(false,.bad)
def s_z141:List AV→Bool×AV
 | [db a0 _,de a1 _]=>(qBN a0 a1,(.dat (.sl (.sl .byte)) (z141 a0 a1) none))
 | _=>(false,.bad)
def s_z164:List AV→Bool×AV
 | [db a0 _]=>(qBM a0,(de (z164 a0) none))
 | _=>(false,.bad)
def s_z165:List AV→Bool×AV
 | [db a0 _,di a1 _]=>(true,(de (z165 a0 a1) none))
 | _=>(false,.bad)
def s_z142:List AV→Bool×AV
 | [db a0 _,db a1 _]=>(qjc a0 a1,(de (z142 a0 a1) none))
 | _=>(false,.bad)
def s_z116:List AV→Bool×AV
 | [db a0 _,db a1 _,de a2 _,de a3 _]=>(qjd a0 a1 a2 a3,(.dat (.sl (.sl .byte)) (z116 a0 a1 a2 a3) none))
 | _=>(false,.bad)
def s_z82:List AV→Bool×AV
 | [db a0 _,db a1 _]=>(qxq a0 a1,(.dat (.sl (.sl .byte)) (z82 a0 a1) none))
 | _=>(false,.bad)
def s_z83:List AV→Bool×AV
 | [db a0 _]=>(qga a0,(db (z83 a0) (some (0,5))))
 | _=>(false,.bad)
def s_z118:List AV→Bool×AV
 | [di a0 _]=>(true,(di (z118 a0) none))
 | _=>(false,.bad)
def s_z87:List AV→Bool×AV
 | [db a0 _]=>(qsC a0,(db (z87 a0) (some (2,5))))
 | _=>(false,.bad)
def s_z84:List AV→Bool×AV
 | [db a0 _]=>(qAQ a0,(de (z84 a0) none))
 | _=>(false,.bad)
def s_z97:List AV→Bool×AV
 | [di a0 _]=>(true,(de (z97 a0) none))
 | _=>(false,.bad)
def s_z150:List AV→Bool×AV
 | [df a0 _,di a1 _]=>(true,(de (z150 a0 a1) none))
 | _=>(false,.bad)
def s_z145:List AV→Bool×AV
 | [df a0 _,di a1 _]=>(true,(de (z145 a0 a1) none))
 | _=>(false,.bad)
def s_z126:List AV→Bool×AV
 | [df a0 _,di a1 _]=>(true,(de (z126 a0 a1) none))
 | _=>(false,.bad)
def s_z98:List AV→Bool×AV
 | [df a0 _,di a1 _]=>(true,(dh (z98 a0 a1) none))
 | _=>(false,.bad)
def s_z58:List AV→Bool×AV
 | [di a0 _]=>(true,(de (z58 a0) none))
 | _=>(false,.bad)
def s_z36:List AV→Bool×AV
 | [di a0 _,de a1 _]=>(true,(dh (z36 a0 a1) none))
 | _=>(false,.bad)
def s_z122:List AV→Bool×AV
 | [db a0 _,de a1 _]=>(qqP a0 a1,(de (z122 a0 a1) none))
 | _=>(false,.bad)
def s_z90:List AV→Bool×AV
 | [db a0 _,de a1 _]=>(qsD a0 a1,(dh (z90 a0 a1) none))
 | _=>(false,.bad)
def s_z85:List AV→Bool×AV
 | [db a0 _,de a1 _]=>(qfY a0 a1,(dh (z85 a0 a1) none))
 | _=>(false,.bad)
def s_z51:List AV→Bool×AV
 | [db a0 _]=>(qiw a0,(.tup [(.dat (.pair (.sl .byte) (.pair (.int .i64) (.pair (.sl .byte) .unit))) ((z51 a0).1) none),(de ((z51 a0).2) none)]))
 | _=>(false,.bad)
def s_z117:List AV→Bool×AV
 | [de a0 _]=>(true,(.dat (.sl .str) (z117 a0) (some (2,9))))
 | _=>(false,.bad)
def s_z86:List AV→Bool×AV
 | []=>(true,(.abs (.sl (.pair .str (.int .i64))) (qjF .str (.int .i64)) z86))
 | _=>(false,.bad)
def s_z146:List AV→Bool×AV
 | [db a0 _,di a1 _]=>(qqO a0 a1,(db (z146 a0 a1) none))
 | _=>(false,.bad)
def s_z147:List AV→Bool×AV
 | [df a0 _]=>(qbM a0,(.tup [(.dat (.arr 256 .bool) ((z147 a0).1) none),(dh ((z147 a0).2) none)]))
 | _=>(false,.bad)
def s_z153:List AV→Bool×AV
 | [.adr (.arr 256 .bool) a0,di a1 _]=>(true,(dh (z153 a0 a1) none))
 | _=>(false,.bad)
def s_z148:List AV→Bool×AV
 | [db a0 _,.adr (.arr 256 .bool) a1]=>(qfO a0 a1,(db (z148 a0 a1) none))
 | _=>(false,.bad)
def s_z149:List AV→Bool×AV
 | [db a0 _,df a1 _]=>(qmQ a0 a1,(db (z149 a0 a1) none))
 | _=>(false,.bad)
def s_z156:List AV→Bool×AV
 | [db a0 _,di a1 _]=>(qxw a0 a1,(db (z156 a0 a1) none))
 | _=>(false,.bad)
def s_z157:List AV→Bool×AV
 | [db a0 _,.adr (.arr 256 .bool) a1]=>(qmS a0 a1,(db (z157 a0 a1) none))
 | _=>(false,.bad)
def s_z158:List AV→Bool×AV
 | [db a0 _,df a1 _]=>(qxx a0 a1,(db (z158 a0 a1) none))
 | _=>(false,.bad)
def s_z129:List AV→Bool×AV
 | [db a0 _,df a1 _]=>(qeR a0 a1,(db (z129 a0 a1) none))
 | _=>(false,.bad)
def s_z119:List AV→Bool×AV
 | [db a0 _]=>(qjf a0,(db (z119 a0) (some (2,5))))
 | _=>(false,.bad)
def s_z88:List AV→Bool×AV
 | [db a0 _]=>(qyn a0,(db (z88 a0) (some (2,5))))
 | _=>(false,.bad)
def s_z53:List AV→Bool×AV
 | [db a0 _]=>(qrt a0,(.tup [(de ((z53 a0).1) none),(de ((z53 a0).2) none)]))
 | _=>(false,.bad)
def s_z52:List AV→Bool×AV
 | [.dat (.pair (.sl .byte) (.pair (.int .i64) (.pair (.sl .byte) .unit))) a0 _]=>(qru a0,(de (z52 a0) none))
 | _=>(false,.bad)
def s_z31:List AV→Bool×AV
 | [db a0 _]=>(qyu a0,(de (z31 a0) none))
 | _=>(false,.bad)
def s_z30:List AV→Bool×AV
 | [db a0 _,.pbox (.osl 3 (.int .i64)) a1 none]=>((qol a0 a1),.tup [(.tup []),.bad,(.pbox (.osl 3 (.int .i64)) (z30 a0 a1) none)])
 | _=>(false,.bad)
def s_z166:List AV→Bool×AV
 | [db a0 _,db a1 _]=>(qpG a0 a1,(dh (z166 a0 a1) none))
 | _=>(false,.bad)
def s_z143:List AV→Bool×AV
 | [db a0 _,db a1 _]=>(qhj a0 a1,(db (z143 a0 a1) none))
 | _=>(false,.bad)
def s_z120:List AV→Bool×AV
 | [db a0 _]=>(qpC a0,(db (z120 a0) none))
 | _=>(false,.bad)
def s_z121:List AV→Bool×AV
 | [di a0 _]=>(true,(.tup [(de ((z121 a0).1) none),(dh ((z121 a0).2) none)]))
 | _=>(false,.bad)
def s_z89:List AV→Bool×AV
 | [db a0 _]=>(qyp a0,(.tup [(db ((z89 a0).1) none),(de ((z89 a0).2) none)]))
 | _=>(false,.bad)
def s_z54:List AV→Bool×AV
 | [db a0 _]=>(qyq a0,(dh (z54 a0) none))
 | _=>(false,.bad)
def s_z175:List AV→Bool×AV
 | [di a0 _]=>(true,(.tup [(de ((z175 a0).1) none),(dh ((z175 a0).2) none)]))
 | _=>(false,.bad)
def s_z167:List AV→Bool×AV
 | [di a0 _,di a1 _]=>(true,(.tup [(di ((z167 a0 a1).1) none),(dh ((z167 a0 a1).2) none)]))
 | _=>(false,.bad)
def s_z144:List AV→Bool×AV
 | [db a0 _,de a1 _,di a2 _]=>(qpx a0 a1 a2,(.tup [(di ((z144 a0 a1 a2).1) none),(dh ((z144 a0 a1 a2).2) none)]))
 | _=>(false,.bad)
def s_z124:List AV→Bool×AV
 | [db a0 _]=>(qiJ a0,(.tup [(db ((z124 a0).1) none),(de ((z124 a0).2) none)]))
 | _=>(false,.bad)
def s_z92:List AV→Bool×AV
 | [db a0 _]=>(qyr a0,(de (z92 a0) none))
 | _=>(false,.bad)
def s_z55:List AV→Bool×AV
 | [db a0 _]=>(qys a0,(de (z55 a0) none))
 | _=>(false,.bad)
def s_z33:List AV→Bool×AV
 | [db a0 _]=>(qyt a0,(dh (z33 a0) none))
 | _=>(false,.bad)
def s_z32:List AV→Bool×AV
 | [db a0 _,.pbox (.leaf (.int .i64)) a1 none]=>((qok a0 a1),.tup [(.tup []),.bad,(.pbox (.leaf (.int .i64)) (z32 a0 a1) none)])
 | _=>(false,.bad)
def s_z127:List AV→Bool×AV
 | [db a0 _,df a1 _]=>(qmI a0 a1,(db (z127 a0 a1) none))
 | _=>(false,.bad)
def s_z99:List AV→Bool×AV
 | [db a0 _]=>(qAR a0,(de (z99 a0) none))
 | _=>(false,.bad)
def s_z151:List AV→Bool×AV
 | [db a0 _,.dat (.int .i32) a1 _]=>(qxv a0 a1,(de (z151 a0 a1) none))
 | _=>(false,.bad)
def s_z152:List AV→Bool×AV
 | [de a0 _]=>(true,(dh (z152 a0) none))
 | _=>(false,.bad)
def s_z128:List AV→Bool×AV
 | [db a0 _,df a1 _]=>(qje a0 a1,(de (z128 a0 a1) none))
 | _=>(false,.bad)
def s_z100:List AV→Bool×AV
 | [db a0 _]=>(qqM a0,(de (z100 a0) none))
 | _=>(false,.bad)
def s_z130:List AV→Bool×AV
 | [db a0 _]=>(qmK a0,(dh (z130 a0) none))
 | _=>(false,.bad)
def s_z101:List AV→Bool×AV
 | [db a0 _]=>(qqL a0,(de (z101 a0) none))
 | _=>(false,.bad)
def s_z59:List AV→Bool×AV
 | [db a0 _]=>(qAS a0,(.dat (.sl (.pair (.int .i64) (.pair (.sl .byte) .unit))) (z59 a0) (some (2,41))))
 | _=>(false,.bad)
def s_z60:List AV→Bool×AV
 | [.dat (.sl (.pair (.int .i64) (.pair (.sl .byte) .unit))) a0 _]=>(qAT a0,(.dat (.sl .bool) (z60 a0) (some (2,4))))
 | _=>(false,.bad)
def s_z37:List AV→Bool×AV
 | [db a0 _]=>(qix a0,(.dat (.sl (.pair (.int .i64) (.pair (.sl .byte) .unit))) (z37 a0) (some (2,41))))
 | _=>(false,.bad)
def s_z62:List AV→Bool×AV
 | [.dat (.int .i32) a0 _,de a1 _,.pbox (.osl 21 (.int .i32)) a2 none]=>((qyv a0 a1 a2),.tup [(.tup []),.bad,.bad,(.pbox (.osl 21 (.int .i32)) (z62 a0 a1 a2) none)])
 | _=>(false,.bad)
def s_z132:List AV→Bool×AV
 | [di a0 _]=>(true,(de (z132 a0) none))
 | _=>(false,.bad)
def s_z159:List AV→Bool×AV
 | [di a0 _]=>(true,(dh (z159 a0) none))
 | _=>(false,.bad)
def s_z160:List AV→Bool×AV
 | [di a0 _,di a1 _]=>(true,(dh (z160 a0 a1) none))
 | _=>(false,.bad)
def s_z131:List AV→Bool×AV
 | [db a0 _]=>(qiH a0,(de (z131 a0) none))
 | _=>(false,.bad)
def s_z133:List AV→Bool×AV
 | [de a0 _]=>(true,(di (z133 a0) none))
 | _=>(false,.bad)
def s_z102:List AV→Bool×AV
 | [db a0 _]=>(qpy a0,(.tup [(.dat (.int .i32) ((z102 a0).1) none),(de ((z102 a0).2.1) none),(de ((z102 a0).2.2) none)]))
 | _=>(false,.bad)
def s_z61:List AV→Bool×AV
 | [db a0 _,.fn 62 [.pbox (.osl 21 (.int .i32)) a1 none]]=>((qdk a0 a1),.tup [(.tup []),.bad,(.pbox (.osl 21 (.int .i32)) (qCH a0 a1) none)])
 | _=>(false,.bad)
def s_z38:List AV→Bool×AV
 | [db a0 _]=>(qfX a0,(.dat (.sl (.int .i32)) (z38 a0) none))
 | _=>(false,.bad)
def s_z106:List AV→Bool×AV
 | [db a0 _]=>(qiI a0,(.dat (.sl (.int .i32)) (z106 a0) (some (2,21))))
 | _=>(false,.bad)
def s_z134:List AV→Bool×AV
 | [.dat (.int .i32) a0 _]=>(true,(.dat (.int .i32) (z134 a0) none))
 | _=>(false,.bad)
def s_z103:List AV→Bool×AV
 | [db a0 _]=>(qpB a0,(.dat (.sl (.int .i32)) (z103 a0) (some (2,21))))
 | _=>(false,.bad)
def s_z161:List AV→Bool×AV
 | []=>(true,(.dat (.arr 8 (.pair .byte (.pair (.int .i32) .unit))) z161 none))
 | _=>(false,.bad)
def s_z135:List AV→Bool×AV
 | [di a0 _]=>(true,(.dat (.int .i32) (z135 a0) none))
 | _=>(false,.bad)
def s_z104:List AV→Bool×AV
 | [db a0 _]=>(qpz a0,(.dat (.sl (.int .i32)) (z104 a0) (some (2,21))))
 | _=>(false,.bad)
def s_z162:List AV→Bool×AV
 | []=>(true,(.dat (.sl (.int .i32)) z162 none))
 | _=>(false,.bad)
def s_z136:List AV→Bool×AV
 | [di a0 _]=>(true,(.dat (.int .i32) (z136 a0) none))
 | _=>(false,.bad)
def s_z105:List AV→Bool×AV
 | [db a0 _]=>(qpA a0,(.dat (.sl (.int .i32)) (z105 a0) (some (2,21))))
 | _=>(false,.bad)
def s_z63:List AV→Bool×AV
 | [de a0 _,db a1 _]=>(qym a0 a1,(.dat (.sl (.int .i32)) (z63 a0 a1) none))
 | _=>(false,.bad)
def s_z173:List AV→Bool×AV
 | [.abs s V x,.pbox (.leaf (.sl .byte)) b0 none]=>((z173 (fun x a0 a1=>V.spec x [⟨.byte,a0⟩,⟨(.int .i64),a1⟩]) x b0).1,.tup [.tup [],.abs s V (z173 (fun x a0 a1=>V.spec x [⟨.byte,a0⟩,⟨(.int .i64),a1⟩]) x b0).2.1,.pbox (.leaf (.sl .byte)) ((z173 (fun x a0 a1=>V.spec x [⟨.byte,a0⟩,⟨(.int .i64),a1⟩]) x b0).2.2) none])
 | _=>(false,.bad)
def qBd:Iter:=⟨[.leaf (.sl .byte)],fun s spec x y=>((z173 (fun x a0 a1=>spec x [⟨.byte,a0⟩,⟨(.int .i64),a1⟩]) x y.1).1,(z173 (fun x a0 a1=>spec x [⟨.byte,a0⟩,⟨(.int .i64),a1⟩]) x y.1).2.1)⟩
def s_z163:List AV→Bool×AV
 | [db a0 _]=>(true,(.abs (qdS [.leaf (.sl .byte)]) (clInv 173 [.leaf (.sl .byte)]) (a0,())))
 | _=>(false,.bad)
def s_z137:List AV→Bool×AV
 | [db a0 _]=>(qpD a0,(.tup [(db ((z137 a0).1) none),(de ((z137 a0).2) none)]))
 | _=>(false,.bad)
def s_z107:List AV→Bool×AV
 | [db a0 _]=>(qpE a0,(db (z107 a0) none))
 | _=>(false,.bad)
def s_z108:List AV→Bool×AV
 | [db a0 _]=>(qpF a0,(db (z108 a0) none))
 | _=>(false,.bad)
def s_z64:List AV→Bool×AV
 | [.dat (.pair (.sl .byte) (.pair (.int .i64) (.pair (.sl .byte) .unit))) a0 _]=>(qyw a0,(db (z64 a0) none))
 | _=>(false,.bad)
def s_z39:List AV→Bool×AV
 | [db a0 _]=>(qir a0,(.tup [(.dat (.sl (.int .i32)) ((z39 a0).1) none),(dh ((z39 a0).2) none)]))
 | _=>(false,.bad)
def s_z50:List AV→Bool×AV
 | [.dat (.pair (.int .i64) (.pair (.sl .byte) .unit)) a0 _,.dat (.sl (.int .i32)) a1 _,.fn 1000000007 [.fn 32 [.pbox (.leaf (.int .i64)) a2 none]]]=>((qco a0 a1 a2),.tup [(.tup []),.bad,.bad,(.pbox (.leaf (.int .i64)) (qis a0 a1 a2) none)])
 | [.dat (.pair (.int .i64) (.pair (.sl .byte) .unit)) a0 _,.dat (.sl (.int .i32)) a1 _,.fn 1000000007 [.fn 30 [.pbox (.osl 3 (.int .i64)) a2 none]]]=>((qcp a0 a1 a2),.tup [(.tup []),.bad,.bad,(.pbox (.osl 3 (.int .i64)) (qit a0 a1 a2) none)])
 | _=>(false,.bad)
def s_z20:List AV→Bool×AV
 | [db a0 _,.fn 21 [.pbox (.osl 21 (.int .i32)) a1 none]]=>((qdl a0 a1),.tup [(.tup []),.bad,(.pbox (.osl 21 (.int .i32)) (qsb a0 a1) none)])
 | [db a0 _,.fn 28 [.pbox (.osl 25 (.sl (.int .i32))) a1 none]]=>((qdm a0 a1),.tup [(.tup []),.bad,(.pbox (.osl 25 (.sl (.int .i32))) (qsc a0 a1) none)])
 | [db a0 _,.fn 50 [.fn 1000000007 [.fn 32 [.pbox (.leaf (.int .i64)) a1 none]]]]=>((qdn a0 a1),.tup [(.tup []),.bad,(.pbox (.leaf (.int .i64)) (qsd a0 a1) none)])
 | [db a0 _,.fn 50 [.fn 1000000007 [.fn 30 [.pbox (.osl 3 (.int .i64)) a1 none]]]]=>((qdo a0 a1),.tup [(.tup []),.bad,(.pbox (.osl 3 (.int .i64)) (qse a0 a1) none)])
 | _=>(false,.bad)
def s_z11:List AV→Bool×AV
 | [db a0 _]=>(qzD a0,(.dat (.sl (.int .i32)) (z11 a0) none))
 | _=>(false,.bad)
def s_z35:List AV→Bool×AV
 | [db a0 _,db a1 _]=>(qsB a0 a1,(.tup [(db ((z35 a0 a1).1) none),(db ((z35 a0 a1).2.1) none),(dh ((z35 a0 a1).2.2) none)]))
 | _=>(false,.bad)
def s_z19:List AV→Bool×AV
 | [db a0 _]=>(qiy a0,(db (z19 a0) (some (2,5))))
 | _=>(false,.bad)
def s_z9:List AV→Bool×AV
 | [db a0 _]=>(z9_ok a0,(.dat (.sl (.int .i32)) (z9 a0) none))
 | _=>(false,.bad)
def s_z15:List AV→Bool×AV
 | [db a0 _]=>(qCT a0,(.dat (.sl (.sl (.int .i32))) (z15 a0) none))
 | _=>(false,.bad)
def s_z29:List AV→Bool×AV
 | [db a0 _,.fn 32 [.pbox (.leaf (.int .i64)) a1 none]]=>((qdp a0 a1),.tup [(.tup []),.bad,(.pbox (.leaf (.int .i64)) (qvF a0 a1) none)])
 | [db a0 _,.fn 30 [.pbox (.osl 3 (.int .i64)) a1 none]]=>((qdq a0 a1),.tup [(.tup []),.bad,(.pbox (.osl 3 (.int .i64)) (qvG a0 a1) none)])
 | _=>(false,.bad)
def s_z16:List AV→Bool×AV
 | [db a0 _]=>(qvC a0,(.dat (.sl (.int .i64)) (z16 a0) none))
 | _=>(false,.bad)
def s_z17:List AV→Bool×AV
 | [db a0 _]=>(qCS a0,(de (z17 a0) none))
 | _=>(false,.bad)
def s_z7:List AV→Bool×AV
 | []=>(true,(dg z7))
 | _=>(false,.bad)
def s_z6:List AV→Bool×AV
 | [db a0 _]=>(true,(dh (z6 a0) none))
 | _=>(false,.bad)
theorem qlS:qf G Tryz.prog 150 s_z150:=fun w S hg vals avs r h hS ha=>by
 unfold s_z150 at h;split at h
 ·simp only [yb,true_and] at h;subst h;exact qsw Tryz.func150 (by kernel_rfl) (by kernel_rfl) (by kernel_rfl) (by kernel_rfl) hS ha
 ·cases h
def s_z155 (m0:Int):List AV→Bool×AV
 | [df a0 _,df a1 _]=>(qmN m0 a0 a1,(de (z155 a0 a1) none))
 | _=>(false,.bad)
theorem qtY (m0:Int):qf (Gm m0) Tryz.prog 155 (s_z155 m0):=fun w S hg vals avs r h hS ha=>by
 unfold s_z155 at h;split at h
 ·obtain ⟨hp,rfl⟩:=yj h;simp only [qmN,yf,ym] at hp;have hm:w.cell? ⟨0,0,none⟩=some (.int .i64 m0):=by
   cases hg.2 0 (.int .i64) m0 rfl with
   | adr _ _ ad cs h1 h2 =>
    have e:cs=[.int .i64 m0]:=h1;subst e;exact ((h2.2 (by simp)).2 0 _ rfl).2
  exact qsx Tryz.func155 (by kernel_rfl) (by kernel_rfl) (by kernel_rfl) (by kernel_rfl) (g:=0) (by kernel_rfl) hm hS ha hp.1.1 hp.1.2 hp.2
 ·cases h
theorem qtZ:qf G Tryz.prog 151 s_z151:=fun w S hg vals avs r h hS ha=>by
 unfold s_z151 at h;split at h
 ·simp only [yb] at h;cases h.1
 ·cases h
theorem qua:qf G Tryz.prog 154 s_z154:=fun w S hg vals avs r h hS ha=>by
 unfold s_z154 at h;split at h
 ·obtain ⟨hp,rfl⟩:=yj h;obtain ⟨m,hm⟩:=hg;exact qsy hm.1 hS ha (by simpa [qmO] using hp)
 ·cases h
theorem qjQ:qf G Tryz.prog 57 s_z57:=fun w S hg vals avs r h hS ha=>by
 unfold s_z57 at h;split at h
 ·obtain ⟨hp,rfl⟩:=yj h;unfold qmP at hp;simp only [yf,ym] at hp;obtain ⟨m,hm⟩:=hg;have hc:w.cell? ⟨0,0,none⟩=some (.int .i64 m):=by
   cases hm.2 0 (.int .i64) m rfl with
   | adr _ _ ad cs h1 h2 =>
    have e:cs=[.int .i64 m]:=h1;subst e;exact ((h2.2 (by simp)).2 0 _ rfl).2
  exact qxt hc hS ha (qg hp.1) (qg hp.2.1) hp.2.2
 ·cases h
theorem qgl:qf G Tryz.prog 83 s_z83:=fun w S hg vals avs r h hS ha=>by
 unfold s_z83 at h;split at h
 ·obtain ⟨hp,rfl⟩:=yj h;exact qxu hS ha (qg hp)
 ·cases h
theorem qlT:qf G Tryz.prog 149 s_z149:=fun w S hg vals avs r h hS ha=>by
 unfold s_z149 at h;split at h
 ·simp only [yb] at h;cases h.1
 ·cases h
theorem qub:qf G Tryz.prog 158 s_z158:=fun w S hg vals avs r h hS ha=>by
 unfold s_z158 at h;split at h
 ·simp only [yb] at h;cases h.1
 ·cases h
theorem quc:qf G Tryz.prog 165 s_z165:=fun w S hg vals avs r h hS ha=>by
 unfold s_z165 at h;split at h
 ·simp only [yb,true_and] at h;subst h;exact qsz hS ha
 ·cases h
theorem qud:qf G Tryz.prog 141 s_z141:=fun w S hg vals avs r h hS ha=>by
 unfold s_z141 at h;split at h
 ·simp only [yb] at h;cases h.1
 ·cases h
theorem que:qf G Tryz.prog 164 s_z164:=fun w S hg vals avs r h hS ha=>by
 unfold s_z164 at h;split at h
 ·simp only [yb] at h;cases h.1
 ·cases h
theorem quf:qf G Tryz.prog 123 s_z123:=fun w S hg vals avs r h hS ha=>by
 unfold s_z123 at h;split at h
 ·simp only [yb,true_and] at h;subst h;exact qsA hS ha
 ·cases h
def E_z8:EnvP:=eQ [] 26 (some [4]) (fun x=>if x=4 then some [0,1,5] else none) (fun x=>if x=0 then some [] else if x=1 then some [0,1,5] else none) nP
def C_z8:Code:=cO Tryz.f8
def R_z8:Array ResultVar:=Tryz.f8.results
noncomputable def qyD (K:Ex→Fr→Option AV):=fun s4=>K .ret (frOf [(4,dg s4)])
def qyE (n:Nat):Ex→Fr→Option AV:=qm 0 (E_z8.cutb 0) (kSeq (evCP E_z8 (evLP E_z8 n) (sub C_z8 [1,1,1])) (kFnP E_z8 R_z8))
def qCO (a0:List Int) (b1:List Int) (i5:Int):Fr:=frOf [(0,(.dat (.sl (.int .i32)) a0 none)),(1,(.dat (.sl (.int .i32)) b1 none)),(5,dc i5)]
theorem qCP (K:Ex→Fr→Option AV):∀ (n:Nat) (a0:List Int) (b1:List Int) (i5:Int),evLP E_z8 n (sub C_z8 [1,1,0,1,0,0]) K (qCO a0 b1 i5)=z8_l4 (qyD K) (K (.exit 0) (frOf [])) n a0 b1 i5:=by
 intro n;induction n with
 | zero=>intros; rfl
 | succ n IH =>
 intro a0 b1 i5;have ih:(fun a0 b1 i5=>evLP E_z8 n (sub C_z8 [1,1,0,1,0,0]) K (qCO a0 b1 i5))=z8_l4 (qyD K) (K (.exit 0) (frOf [])) n:=by
  funext a0 b1 i5;exact IH a0 b1 i5
 show _=qiM (qyD K) (K (.exit 0) (frOf [])) (z8_l4 (qyD K) (K (.exit 0) (frOf [])) n) n a0 b1 i5;rw [← ih];kernel_rfl
theorem qug (n:Nat)  : (qyE n) (.exit 0) (frOf [])=qqf n  := by
 kernel_rfl
theorem z8_ev (n:Nat) (a0:List Int) (o0:Lab) (b1:List Int) (o1:Lab):evFnP E_z8 n C_z8 R_z8 [.dat (.sl (.int .i32)) a0 o0,.dat (.sl (.int .i32)) b1 o1]=z8_sh n a0 b1:=by
 unfold z8_sh;rw [show z8_l4 qso (qqf n) n=(fun a0 b1 i5=>evLP E_z8 n (sub C_z8 [1,1,0,1,0,0]) (qyE n) (qCO a0 b1 i5)) from by
  funext a0 b1 i5;refine Eq.trans ?_ (qCP (qyE n) n a0 b1 i5).symm;rw [show ((qyE n) (.exit 0) (frOf []))=(qqf n) from by
   exact qug n ]
  all_goals kernel_rfl]
 kernel_rfl
theorem qCQ:qf G Tryz.prog 8 s_z8:=by
 refine sQ (E:=E_z8) (c:=C_z8) rfl (fun w S hg=>qc) Tryz.func8 ?_;intro avs r h;unfold s_z8 at h;split at h
 ·obtain ⟨hp,rfl⟩:=yj h;obtain ⟨n,hn⟩:=qIf _ _ hp;exact ⟨n,_,(z8_ev n _ _ _ _).trans hn,.inl rfl⟩
 ·cases h
def E_z21:EnvP:=eQ [] 8 (some [10]) nC nC (fun x=>if x=5 then some (.osl 21 (.int .i32)) else if x=7 then some (.osl 21 (.int .i32)) else none)
def C_z21:Code:=cO Tryz.f21
def R_z21:Array ResultVar:=Tryz.f21.results
theorem qIz (n:Nat) (x0:Int×((List UInt8)×Unit)) (o0:Lab) (t1:List Int) (o1:Lab) (x2:List Int):evFnM E_z21 n C_z21 R_z21 [.dat (.pair (.int .i64) (.pair (.sl .byte) .unit)) x0 o0,.dat (.sl (.int .i32)) t1 o1,.pbox (.osl 21 (.int .i32)) x2 none]=qDe n x0 t1 x2:=by
 kernel_rfl
theorem qyF:qfR G Tryz.prog 21 s_z21:=by
 refine qP G_stays (E:=E_z21) (fn:=Tryz.f21) (c:=C_z21) (qe rfl qaU) (fun w S hg=>⟨⟨qc,fun f sp h=>qZ f sp h w S⟩,qae w S hg,(fun _ _ h=>by cases h),(fun f sp h=>qat f sp h),(fun f it h=>qau f it h),(fun t kt vt h=>qaa t kt vt h)⟩) follows Tryz.func21 (by kernel_rfl) (by kernel_rfl) (by kernel_rfl) ?_;intro avs r h;unfold s_z21 at h;split at h
 ·obtain ⟨hp,rfl⟩:=yj h;obtain ⟨n,hn⟩:=qCU _ _ _ hp;exact ⟨n,(qIz n _ _ _ _ _).trans hn⟩
 ·cases h
def E_z28:EnvP:=eQ [] 9 (some [11]) nC nC (fun x=>if x=5 then some (.osl 25 (.sl (.int .i32))) else if x=8 then some (.osl 25 (.sl (.int .i32))) else none)
def C_z28:Code:=cO Tryz.f28
def R_z28:Array ResultVar:=Tryz.f28.results
theorem qIA (n:Nat) (x0:Int×((List UInt8)×Unit)) (o0:Lab) (t1:List Int) (o1:Lab) (x2:List (List Int)):evFnM E_z28 n C_z28 R_z28 [.dat (.pair (.int .i64) (.pair (.sl .byte) .unit)) x0 o0,.dat (.sl (.int .i32)) t1 o1,.pbox (.osl 25 (.sl (.int .i32))) x2 none]=qDf n x0 t1 x2:=by
 kernel_rfl
theorem qyG:qfR G Tryz.prog 28 s_z28:=by
 refine qP G_stays (E:=E_z28) (fn:=Tryz.f28) (c:=C_z28) (qe rfl qaU) (fun w S hg=>⟨⟨qc,fun f sp h=>qZ f sp h w S⟩,qae w S hg,(fun _ _ h=>by cases h),(fun f sp h=>qat f sp h),(fun f it h=>qau f it h),(fun t kt vt h=>qaa t kt vt h)⟩) follows Tryz.func28 (by kernel_rfl) (by kernel_rfl) (by kernel_rfl) ?_;intro avs r h;unfold s_z28 at h;split at h
 ·obtain ⟨hp,rfl⟩:=yj h;obtain ⟨n,hn⟩:=qCV _ _ _ hp;exact ⟨n,(qIA n _ _ _ _ _).trans hn⟩
 ·cases h
def E_z91:EnvP:=eQ [(123,s_z123)] 8 (some [4]) nC nC nP
def C_z91:Code:=cO Tryz.f91
def R_z91:Array ResultVar:=Tryz.f91.results
theorem qIB (n:Nat) (b0:List UInt8) (o0:Lab) (c1:UInt8) (o1:Lab):evFnP E_z91 n C_z91 R_z91 [db b0 o0,di c1 o1]=qHU n b0 c1:=by
 kernel_rfl
theorem qpJ:qf G Tryz.prog 91 s_z91:=by
 refine sQ (E:=E_z91) (c:=C_z91) rfl (fun w S hg=>(qb (quf w S hg) qc)) Tryz.func91 ?_;intro avs r h;unfold s_z91 at h;split at h <;> cases h
 obtain ⟨n,hn⟩:=qDY _ _;exact ⟨n,_,(qIB n _ _ _ _).trans hn,.inl rfl⟩
def E_z93:EnvP:=eQ [] 10 (some [4]) nC nC nP
def C_z93:Code:=cO Tryz.f93
def R_z93:Array ResultVar:=Tryz.f93.results
theorem qIC (n:Nat) (a0:List UInt8) (o0:Lab) (b1:List UInt8) (o1:Lab):evFnP E_z93 n C_z93 R_z93 [db a0 o0,db b1 o1]=qHV n a0 b1:=by
 kernel_rfl
theorem qyH:qf G Tryz.prog 93 s_z93:=by
 refine sQ (E:=E_z93) (c:=C_z93) rfl (fun w S hg=>qc) Tryz.func93 ?_;intro avs r h;unfold s_z93 at h;split at h <;> cases h
 obtain ⟨n,hn⟩:=qDU _ _;exact ⟨n,_,(qIC n _ _ _ _).trans hn,.inl rfl⟩
def qjR:EnvP:=eQ [(57,s_z57),(164,s_z164),(165,s_z165)] 35 (some [4]) (fun x=>if x=6 then some [0,1,5] else none) (fun x=>if x=0 then some [4] else if x=1 then some [0,1,5] else none) nP
def quh:Code:=cO Tryz.f142
def qCR:Array ResultVar:=Tryz.f142.results
noncomputable def qjS (K:Ex→Fr→Option AV):=fun s4=>K .ret (frOf [(4,dc s4)])
def qnv (s0:List UInt8) (sep1:List UInt8) (n5:Int):Fr:=frOf [(0,da s0),(1,da sep1),(5,dc n5)]
theorem qui (K:Ex→Fr→Option AV):∀ (n:Nat) (s0:List UInt8) (sep1:List UInt8) (n5:Int),evLP qjR n (sub quh [1,1,1,1,0,0]) K (qnv s0 sep1 n5)=qiN (qjS K) n s0 sep1 n5:=by
 intro n;induction n with
 | zero=>intros; rfl
 | succ n IH =>
 intro s0 sep1 n5;have ih:(fun s0 sep1 n5=>evLP qjR n (sub quh [1,1,1,1,0,0]) K (qnv s0 sep1 n5))=qiN (qjS K) n:=by
  funext s0 sep1 n5;exact IH s0 sep1 n5
 show _=qqg (qjS K) (qiN (qjS K) n) n s0 sep1 n5;rw [← ih];kernel_rfl
theorem qFp (n:Nat) (s0:List UInt8) (o0:Lab) (sep1:List UInt8) (o1:Lab):evFnP qjR n quh qCR [db s0 o0,db sep1 o1]=qvJ n s0 sep1:=by
 unfold qvJ;rw [show qiN qhE n=(fun s0 sep1 n5=>evLP qjR n (sub quh [1,1,1,1,0,0]) (qm 0 (qjR.cutb 0) (kFnP qjR qCR)) (qnv s0 sep1 n5)) from by
  funext s0 sep1 n5;refine Eq.trans ?_ (qui (qm 0 (qjR.cutb 0) (kFnP qjR qCR)) n s0 sep1 n5).symm;all_goals kernel_rfl]
 kernel_rfl
theorem quj:qf G Tryz.prog 142 s_z142:=by
 refine sQ (E:=qjR) (c:=quh) rfl (fun w S hg=>(qb (qjQ w S hg) (qb (que w S hg) (qb (quc w S hg) qc)))) Tryz.func142 ?_;intro avs r h;unfold s_z142 at h;split at h
 ·obtain ⟨hp,rfl⟩:=yj h;obtain ⟨n,hn⟩:=qzY _ _ hp;exact ⟨n,_,(qFp n _ _ _ _).trans hn,.inl rfl⟩
 ·cases h
def qjT:EnvP:=eQ [(57,s_z57),(141,s_z141),(142,s_z142)] 70 (some [1000008]) (fun x=>if x=11 then some [0,1,2,3,9,10] else none) (fun x=>if x=0 then some [0,9,10] else if x=1 then some [0,1,2,3,9,10] else none) (fun x=>if x=32 then some (.psl 22 (.leaf (.sl .byte))) else none)
def qrw:Code:=cO Tryz.f116
def qFq:Array ResultVar:=Tryz.f116.results
noncomputable def qhk (K:Ex→Fr→Option AV):=fun s0 a9 i10=>K (.exit 0) (frOf [(0,da s0),(9,(.pv (.psl 22 (.leaf (.sl .byte))) a9 none)),(10,dc i10)])
def qjU (n:Nat):Ex→Fr→Option AV:=qm 0 (qjT.cutb 0) (kSeq (evCP qjT (evLP qjT n) (sub qrw [1,1,1,1,1,1,1,1,1])) (kFnP qjT qFq))
def qnw (s0:List UInt8) (sep1:List UInt8) (sepSave2:Int) (n3:Int) (a9:List (List UInt8)) (i10:Int):Fr:=frOf [(0,da s0),(1,da sep1),(2,dc sepSave2),(3,dc n3),(9,(.pv (.psl 22 (.leaf (.sl .byte))) a9 none)),(10,dc i10)]
theorem qrx (K:Ex→Fr→Option AV):∀ (n:Nat) (s0:List UInt8) (sep1:List UInt8) (sepSave2:Int) (n3:Int) (a9:List (List UInt8)) (i10:Int),evLP qjT n (sub qrw [1,1,1,1,1,1,1,1,0,0,0]) K (qnw s0 sep1 sepSave2 n3 a9 i10)=qbQ (qhk K) n s0 sep1 sepSave2 n3 a9 i10:=by
 intro n;induction n with
 | zero=>intros; rfl
 | succ n IH =>
 intro s0 sep1 sepSave2 n3 a9 i10;have ih:(fun s0 sep1 sepSave2 n3 a9 i10=>evLP qjT n (sub qrw [1,1,1,1,1,1,1,1,0,0,0]) K (qnw s0 sep1 sepSave2 n3 a9 i10))=qbQ (qhk K) n:=by
  funext s0 sep1 sepSave2 n3 a9 i10;exact IH s0 sep1 sepSave2 n3 a9 i10
 show _=qbX (qhk K) (qbQ (qhk K) n) n s0 sep1 sepSave2 n3 a9 i10;rw [← ih];kernel_rfl
theorem qlU (n:Nat) (s0:List UInt8) (a9:List (List UInt8)) (i10:Int):(qjU n) (.exit 0) (frOf [(0,da s0),(9,(.pv (.psl 22 (.leaf (.sl .byte))) a9 none)),(10,dc i10)])=qad n s0 a9 i10:=by
 kernel_rfl
theorem qFr (n:Nat) (s0:List UInt8) (o0:Lab) (sep1:List UInt8) (o1:Lab) (sepSave2:Int) (o2:Lab) (n3:Int) (o3:Lab):evFnP qjT n qrw qFq [db s0 o0,db sep1 o1,de sepSave2 o2,de n3 o3]=qqh n s0 sep1 sepSave2 n3:=by
 unfold qqh qaP qaO;rw [show qbQ (qad n) n=(fun s0 sep1 sepSave2 n3 a9 i10=>evLP qjT n (sub qrw [1,1,1,1,1,1,1,1,0,0,0]) (qjU n) (qnw s0 sep1 sepSave2 n3 a9 i10)) from by
  funext s0 sep1 sepSave2 n3 a9 i10;refine Eq.trans ?_ (qrx (qjU n) n s0 sep1 sepSave2 n3 a9 i10).symm;rw [show (qhk (qjU n))=(qad n) from by
   funext s0 a9 i10;exact qlU n s0 a9 i10]
  all_goals kernel_rfl]
 kernel_rfl
theorem quk:qf G Tryz.prog 116 s_z116:=by
 refine sQ (E:=qjT) (c:=qrw) rfl (fun w S hg=>(qb (qjQ w S hg) (qb (qud w S hg) (qb (quj w S hg) qc)))) Tryz.func116 ?_;intro avs r h;unfold s_z116 at h;split at h
 ·obtain ⟨hp,rfl⟩:=yj h;obtain ⟨n,hn⟩:=qzZ _ _ _ _ hp;exact ⟨n,_,(qFr n _ _ _ _ _ _ _ _).trans hn,.inl rfl⟩
 ·cases h
end
end Go.Av
