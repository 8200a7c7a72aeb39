import Derived.Test.YtnfehbljinflbaaGreatDoorRRRRErP2
import Derived.Test.YtnfehbljinflbaaGreatDoorRRRREtN
import Derived.Test.YtnfehbljinflbaaGreatDoorRRRRProg
import Derived.KernelRfl
namespace Go.Av
set_option linter.unusedVariables false
noncomputable section
open Go.Proofs
set_option maxRecDepth 100000
def tis:List (TypeId×TI):=[(2,⟨some (.int .i64),8,0⟩),
 (3,⟨some (.int .i64),8,0⟩),
 (4,⟨some .bool,1,0⟩),
 (5,⟨some .byte,1,0⟩),
 (6,⟨some .byte,1,0⟩),
 (7,⟨some (.pair (.int .i64) (.pair (.int .i64) (.pair .bool (.pair .byte .unit)))),24,0⟩),
 (8,⟨some (.pair (.int .i64) (.pair (.int .i64) (.pair .bool (.pair .byte .unit)))),24,0⟩),
 (9,⟨some .str,16,0⟩),
 (10,⟨some .str,16,0⟩),
 (11,⟨some .str,16,0⟩),
 (12,⟨some (.int .u64),8,0⟩),
 (13,⟨some (.pair .str (.pair (.int .u64) .unit)),24,0⟩),
 (14,⟨some (.pair .str (.pair (.int .u64) .unit)),24,0⟩),
 (21,⟨some (.int .i32),4,0⟩),
 (22,⟨some (.sl .byte),24,5⟩),
 (25,⟨some (.sl (.int .i32)),24,21⟩),
 (30,⟨some (.sl (.sl (.int .i32))),24,25⟩),
 (31,⟨some (.sl (.int .i64)),24,3⟩),
 (40,⟨some (.pair (.int .i64) (.pair (.sl .byte) .unit)),32,0⟩),
 (41,⟨some (.pair (.int .i64) (.pair (.sl .byte) .unit)),32,0⟩),
 (44,⟨some (.sl (.pair (.int .i64) (.pair (.sl .byte) .unit))),24,46⟩),
 (46,⟨some (.pair (.int .i64) (.pair (.sl .byte) .unit)),32,0⟩),
 (57,⟨some (.sl (.pair (.int .i64) (.pair (.sl .byte) .unit))),24,41⟩),
 (60,⟨some (.pair (.sl .byte) (.pair (.int .i64) (.pair (.sl .byte) .unit))),56,0⟩),
 (61,⟨some (.pair (.sl .byte) (.pair (.int .i64) (.pair (.sl .byte) .unit))),56,0⟩),
 (69,⟨some (.pair (.sl .byte) (.pair (.int .i64) (.pair (.sl .byte) .unit))),56,0⟩),
 (70,⟨some (.int .i64),8,0⟩),
 (79,⟨some (.sl .bool),24,4⟩),
 (85,⟨some (.sl (.sl .byte)),24,22⟩),
 (95,⟨some (.sl .str),24,9⟩),
 (106,⟨some (.int .u64),8,0⟩),
 (116,⟨some (.int .u32),4,0⟩),
 (127,⟨some (.arr 256 .bool),256,4⟩),
 (128,⟨some (.arr 256 .bool),256,4⟩),
 (139,⟨some (.pair .byte (.pair (.int .i32) .unit)),8,0⟩),
 (140,⟨some (.pair .byte (.pair (.int .i32) .unit)),8,0⟩),
 (141,⟨some (.arr 8 (.pair .byte (.pair (.int .i32) .unit))),64,140⟩),
 (149,⟨some (.arr 4 .byte),4,5⟩),
 (150,⟨some (.arr 32 (.int .i32)),128,21⟩),
 (152,⟨some (.arr 256 .byte),256,5⟩),
 (153,⟨some (.pair .byte (.pair .byte .unit)),2,0⟩),
 (154,⟨some (.pair .byte (.pair .byte .unit)),2,0⟩),
 (155,⟨some (.arr 16 (.pair .byte (.pair .byte .unit))),32,154⟩),
 (162,⟨some .byte,1,0⟩),
 (163,⟨some .byte,1,0⟩),
 (166,⟨some (.int .i32),4,0⟩),
 (167,⟨some (.int .i32),4,0⟩)]
theorem qbd:(tis.all fun p=>tyB Tryz.prog (tiOf tis) p.1)=true:=by kernel_rfl
theorem follows:Tryz.prog.follows .mixedOrders=true:=by kernel_rfl
abbrev FnL:=List (FuncId×(List AV→Bool×AV))
abbrev CutL:=Nat→Option (List Nat)
def eQ (l:FnL) (nt:Nat) (r:Option (List Nat)) (a b:CutL) (p:Nat→Option PSh):EnvP:=⟨⟨tiOf tis,fnsOf l,cnsOf [],[],nt,a,b,r⟩,p,fun _=>none,fun _=>[],fun _=>none,fun _=>none,fun _=>none,fun _=>none⟩
def cO (f:Func):Code:=f.body.getD .skip
def nC:CutL:=fun _=>none
def nP:Nat→Option PSh:=fun _=>none
theorem sQ {E:EnvP} {l:FnL} {nt:Nat} {r:Option (List Nat)} {a b:CutL} {p:Nat→Option PSh} {f:FuncId} {fn:Func} {c:Code} {spec:List AV→Bool×AV} (hE:E=eQ l nt r a b p) (hl:∀ w S,G w S→∀ f,qcv Tryz.prog f (fnsOf l f) w S)
 (hf:Tryz.prog.funcs[f]? = some fn) (hspec:∀ avs r',spec avs=(true,r')→∃ n v,evFnP E n c fn.results avs=some v∧(v=r'∨v.strip=r')) (hb:fn.body=some c:=by kernel_rfl) (hnt:fn.ntmps=nt:=by kernel_rfl) (hname:(fn.name == "runtime.NumGoroutine")=false:=by kernel_rfl):qe G Tryz.prog f spec:=by
 subst hE;exact qB G_stays (E:=eQ l nt r a b p) (qj rfl qbd) (fun w S hg=>⟨⟨hl w S hg,fun f sp h=>qac f sp h w S⟩,qai w S hg,(fun _ _ h=>by cases h),(fun f sp h=>qaC f sp h),(fun f it h=>qaD f it h),(fun t kt vt h=>qah t kt vt h)⟩) follows hf hb hnt hname hspec
def s_z8:List AV→Bool×AV
 | [.dat (.sl (.int .i32)) a0 _,.dat (.sl (.int .i32)) a1 _]=>(z8_ok a0 a1,(dh (z8 a0 a1) none))
 | _=>(false,.bad)
def s_z21:List AV→Bool×AV
 | [.dat (.pair (.int .i64) (.pair (.sl .byte) .unit)) a0 _,.dat (.sl (.int .i32)) a1 _,.pbox (.osl 21 (.int .i32)) a2 none]=>((qCw a0 a1 a2),.tup [(.tup []),.bad,.bad,(.pbox (.osl 21 (.int .i32)) (z21 a0 a1 a2) none)])
 | _=>(false,.bad)
def s_z28:List AV→Bool×AV
 | [.dat (.pair (.int .i64) (.pair (.sl .byte) .unit)) a0 _,.dat (.sl (.int .i32)) a1 _,.pbox (.osl 25 (.sl (.int .i32))) a2 none]=>((qCx a0 a1 a2),.tup [(.tup []),.bad,.bad,(.pbox (.osl 25 (.sl (.int .i32))) (z28 a0 a1 a2) none)])
 | _=>(false,.bad)
def s_z123:List AV→Bool×AV
 | [db a0 _,dn a1 _]=>(true,(de (z123 a0 a1) none))
 | _=>(false,.bad)
def s_z91:List AV→Bool×AV
 | [db a0 _,dn a1 _]=>(true,(de (z91 a0 a1) none))
 | _=>(false,.bad)
def s_z93:List AV→Bool×AV
 | [db a0 _,db a1 _]=>(true,(dh (z93 a0 a1) none))
 | _=>(false,.bad)
def s_z57:List AV→Bool×AV
 | [db a0 _,db a1 _]=>(qrf a0 a1,(de (z57 a0 a1) none))
 | _=>(false,.bad)
def s_z154:List AV→Bool×AV
 | [db a0 _]=>(qre a0,(.tup [(di ((z154 a0).1) none),(de ((z154 a0).2) none)]))
 | _=>(false,.bad)
def s_z141:List AV→Bool×AV
 | [db a0 _,de a1 _]=>(qKQ a0 a1,(.dat (.sl (.sl .byte)) (z141 a0 a1) none))
 | _=>(false,.bad)
def s_z164:List AV→Bool×AV
 | [db a0 _]=>(qKP a0,(de (z164 a0) none))
 | _=>(false,.bad)
def s_z165:List AV→Bool×AV
 | [db a0 _,dn a1 _]=>(true,(de (z165 a0 a1) none))
 | _=>(false,.bad)
def s_z142:List AV→Bool×AV
 | [db a0 _,db a1 _]=>(qmc a0 a1,(de (z142 a0 a1) none))
 | _=>(false,.bad)
def s_z116:List AV→Bool×AV
 | [db a0 _,db a1 _,de a2 _,de a3 _]=>(qmd a0 a1 a2 a3,(.dat (.sl (.sl .byte)) (z116 a0 a1 a2 a3) none))
 | _=>(false,.bad)
def s_z82:List AV→Bool×AV
 | [db a0 _,db a1 _]=>(qEA a0 a1,(.dat (.sl (.sl .byte)) (z82 a0 a1) none))
 | _=>(false,.bad)
def s_z83:List AV→Bool×AV
 | [db a0 _]=>(qhW a0,(db (z83 a0) (some (0,5))))
 | _=>(false,.bad)
def s_z118:List AV→Bool×AV
 | [dn a0 _]=>(true,(dn (z118 a0) none))
 | _=>(false,.bad)
def s_z87:List AV→Bool×AV
 | [db a0 _]=>(qyT a0,(db (z87 a0) (some (2,5))))
 | _=>(false,.bad)
def s_z84:List AV→Bool×AV
 | [db a0 _]=>(qJC a0,(de (z84 a0) none))
 | _=>(false,.bad)
def s_z97:List AV→Bool×AV
 | [dn a0 _]=>(true,(de (z97 a0) none))
 | _=>(false,.bad)
def s_z150:List AV→Bool×AV
 | [df a0 _,dn a1 _]=>(true,(de (z150 a0 a1) none))
 | _=>(false,.bad)
def s_z145:List AV→Bool×AV
 | [df a0 _,dn a1 _]=>(true,(de (z145 a0 a1) none))
 | _=>(false,.bad)
def s_z126:List AV→Bool×AV
 | [df a0 _,dn a1 _]=>(true,(de (z126 a0 a1) none))
 | _=>(false,.bad)
def s_z98:List AV→Bool×AV
 | [df a0 _,dn a1 _]=>(true,(dh (z98 a0 a1) none))
 | _=>(false,.bad)
def s_z58:List AV→Bool×AV
 | [dn a0 _]=>(true,(de (z58 a0) none))
 | _=>(false,.bad)
def s_z36:List AV→Bool×AV
 | [dn a0 _,de a1 _]=>(true,(dh (z36 a0 a1) none))
 | _=>(false,.bad)
def s_z122:List AV→Bool×AV
 | [db a0 _,de a1 _]=>(qwu a0 a1,(de (z122 a0 a1) none))
 | _=>(false,.bad)
def s_z90:List AV→Bool×AV
 | [db a0 _,de a1 _]=>(qyU a0 a1,(dh (z90 a0 a1) none))
 | _=>(false,.bad)
def s_z85:List AV→Bool×AV
 | [db a0 _,de a1 _]=>(qhU a0 a1,(dh (z85 a0 a1) none))
 | _=>(false,.bad)
def s_z51:List AV→Bool×AV
 | [db a0 _]=>(qlj a0,(.tup [(.dat (.pair (.sl .byte) (.pair (.int .i64) (.pair (.sl .byte) .unit))) ((z51 a0).1) none),(de ((z51 a0).2) none)]))
 | _=>(false,.bad)
def s_z117:List AV→Bool×AV
 | [de a0 _]=>(true,(.dat (.sl .str) (z117 a0) (some (2,9))))
 | _=>(false,.bad)
def s_z86:List AV→Bool×AV
 | []=>(true,(.abs (.sl (.pair .str (.int .i64))) (qmF .str (.int .i64)) z86))
 | _=>(false,.bad)
def s_z146:List AV→Bool×AV
 | [db a0 _,dn a1 _]=>(qwt a0 a1,(db (z146 a0 a1) none))
 | _=>(false,.bad)
def s_z147:List AV→Bool×AV
 | [df a0 _]=>(qcn a0,(.tup [(.dat (.arr 256 .bool) ((z147 a0).1) none),(dh ((z147 a0).2) none)]))
 | _=>(false,.bad)
def s_z153:List AV→Bool×AV
 | [.adr (.arr 256 .bool) a0,dn a1 _]=>(true,(dh (z153 a0 a1) none))
 | _=>(false,.bad)
def s_z148:List AV→Bool×AV
 | [db a0 _,.adr (.arr 256 .bool) a1]=>(qhK a0 a1,(db (z148 a0 a1) none))
 | _=>(false,.bad)
def s_z149:List AV→Bool×AV
 | [db a0 _,df a1 _]=>(qrg a0 a1,(db (z149 a0 a1) none))
 | _=>(false,.bad)
def s_z156:List AV→Bool×AV
 | [db a0 _,dn a1 _]=>(qEF a0 a1,(db (z156 a0 a1) none))
 | _=>(false,.bad)
def s_z157:List AV→Bool×AV
 | [db a0 _,.adr (.arr 256 .bool) a1]=>(qrh a0 a1,(db (z157 a0 a1) none))
 | _=>(false,.bad)
def s_z158:List AV→Bool×AV
 | [db a0 _,df a1 _]=>(qEG a0 a1,(db (z158 a0 a1) none))
 | _=>(false,.bad)
def s_z129:List AV→Bool×AV
 | [db a0 _,df a1 _]=>(qgk a0 a1,(db (z129 a0 a1) none))
 | _=>(false,.bad)
def s_z119:List AV→Bool×AV
 | [db a0 _]=>(qmf a0,(db (z119 a0) (some (2,5))))
 | _=>(false,.bad)
def s_z88:List AV→Bool×AV
 | [db a0 _]=>(qFz a0,(db (z88 a0) (some (2,5))))
 | _=>(false,.bad)
def s_z53:List AV→Bool×AV
 | [db a0 _]=>(qxb a0,(.tup [(de ((z53 a0).1) none),(de ((z53 a0).2) none)]))
 | _=>(false,.bad)
def s_z52:List AV→Bool×AV
 | [.dat (.pair (.sl .byte) (.pair (.int .i64) (.pair (.sl .byte) .unit))) a0 _]=>(qxg a0,(de (z52 a0) none))
 | _=>(false,.bad)
def s_z31:List AV→Bool×AV
 | [db a0 _]=>(qFL a0,(de (z31 a0) none))
 | _=>(false,.bad)
def s_z30:List AV→Bool×AV
 | [db a0 _,.pbox (.osl 3 (.int .i64)) a1 none]=>((qsM a0 a1),.tup [(.tup []),.bad,(.pbox (.osl 3 (.int .i64)) (z30 a0 a1) none)])
 | _=>(false,.bad)
def s_z166:List AV→Bool×AV
 | [db a0 _,db a1 _]=>(qur a0 a1,(dh (z166 a0 a1) none))
 | _=>(false,.bad)
def s_z143:List AV→Bool×AV
 | [db a0 _,db a1 _]=>(qjj a0 a1,(db (z143 a0 a1) none))
 | _=>(false,.bad)
def s_z120:List AV→Bool×AV
 | [db a0 _]=>(qum a0,(db (z120 a0) none))
 | _=>(false,.bad)
def s_z121:List AV→Bool×AV
 | [dn a0 _]=>(true,(.tup [(de ((z121 a0).1) none),(dh ((z121 a0).2) none)]))
 | _=>(false,.bad)
def s_z89:List AV→Bool×AV
 | [db a0 _]=>(qFB a0,(.tup [(db ((z89 a0).1) none),(de ((z89 a0).2) none)]))
 | _=>(false,.bad)
def s_z54:List AV→Bool×AV
 | [db a0 _]=>(qFD a0,(dh (z54 a0) none))
 | _=>(false,.bad)
def s_z175:List AV→Bool×AV
 | [dn a0 _]=>(true,(.tup [(de ((z175 a0).1) none),(dh ((z175 a0).2) none)]))
 | _=>(false,.bad)
def s_z167:List AV→Bool×AV
 | [dn a0 _,dn a1 _]=>(true,(.tup [(dn ((z167 a0 a1).1) none),(dh ((z167 a0 a1).2) none)]))
 | _=>(false,.bad)
def s_z144:List AV→Bool×AV
 | [db a0 _,de a1 _,dn a2 _]=>(quh a0 a1 a2,(.tup [(dn ((z144 a0 a1 a2).1) none),(dh ((z144 a0 a1 a2).2) none)]))
 | _=>(false,.bad)
def s_z124:List AV→Bool×AV
 | [db a0 _]=>(qly a0,(.tup [(db ((z124 a0).1) none),(de ((z124 a0).2) none)]))
 | _=>(false,.bad)
def s_z92:List AV→Bool×AV
 | [db a0 _]=>(qFG a0,(de (z92 a0) none))
 | _=>(false,.bad)
def s_z55:List AV→Bool×AV
 | [db a0 _]=>(qFH a0,(de (z55 a0) none))
 | _=>(false,.bad)
def s_z33:List AV→Bool×AV
 | [db a0 _]=>(qFJ a0,(dh (z33 a0) none))
 | _=>(false,.bad)
def s_z32:List AV→Bool×AV
 | [db a0 _,.pbox (.leaf (.int .i64)) a1 none]=>((qsL a0 a1),.tup [(.tup []),.bad,(.pbox (.leaf (.int .i64)) (z32 a0 a1) none)])
 | _=>(false,.bad)
def s_z127:List AV→Bool×AV
 | [db a0 _,df a1 _]=>(qqY a0 a1,(db (z127 a0 a1) none))
 | _=>(false,.bad)
def s_z99:List AV→Bool×AV
 | [db a0 _]=>(qJF a0,(de (z99 a0) none))
 | _=>(false,.bad)
def s_z151:List AV→Bool×AV
 | [db a0 _,di a1 _]=>(qEE a0 a1,(de (z151 a0 a1) none))
 | _=>(false,.bad)
def s_z152:List AV→Bool×AV
 | [de a0 _]=>(true,(dh (z152 a0) none))
 | _=>(false,.bad)
def s_z128:List AV→Bool×AV
 | [db a0 _,df a1 _]=>(qme a0 a1,(de (z128 a0 a1) none))
 | _=>(false,.bad)
def s_z100:List AV→Bool×AV
 | [db a0 _]=>(qwr a0,(de (z100 a0) none))
 | _=>(false,.bad)
def s_z130:List AV→Bool×AV
 | [db a0 _]=>(qra a0,(dh (z130 a0) none))
 | _=>(false,.bad)
def s_z101:List AV→Bool×AV
 | [db a0 _]=>(qwq a0,(de (z101 a0) none))
 | _=>(false,.bad)
def s_z59:List AV→Bool×AV
 | [db a0 _]=>(qJG a0,(.dat (.sl (.pair (.int .i64) (.pair (.sl .byte) .unit))) (z59 a0) (some (2,41))))
 | _=>(false,.bad)
def s_z60:List AV→Bool×AV
 | [.dat (.sl (.pair (.int .i64) (.pair (.sl .byte) .unit))) a0 _]=>(qJI a0,(.dat (.sl .bool) (z60 a0) (some (2,4))))
 | _=>(false,.bad)
def s_z37:List AV→Bool×AV
 | [db a0 _]=>(qll a0,(.dat (.sl (.pair (.int .i64) (.pair (.sl .byte) .unit))) (z37 a0) (some (2,41))))
 | _=>(false,.bad)
def s_z62:List AV→Bool×AV
 | [di a0 _,de a1 _,.pbox (.osl 21 (.int .i32)) a2 none]=>((qFN a0 a1 a2),.tup [(.tup []),.bad,.bad,(.pbox (.osl 21 (.int .i32)) (z62 a0 a1 a2) none)])
 | _=>(false,.bad)
def s_z132:List AV→Bool×AV
 | [dn a0 _]=>(true,(de (z132 a0) none))
 | _=>(false,.bad)
def s_z159:List AV→Bool×AV
 | [dn a0 _]=>(true,(dh (z159 a0) none))
 | _=>(false,.bad)
def s_z160:List AV→Bool×AV
 | [dn a0 _,dn a1 _]=>(true,(dh (z160 a0 a1) none))
 | _=>(false,.bad)
def s_z131:List AV→Bool×AV
 | [db a0 _]=>(qlw a0,(de (z131 a0) none))
 | _=>(false,.bad)
def s_z133:List AV→Bool×AV
 | [de a0 _]=>(true,(dn (z133 a0) none))
 | _=>(false,.bad)
def s_z102:List AV→Bool×AV
 | [db a0 _]=>(qui a0,(.tup [(di ((z102 a0).1) none),(de ((z102 a0).2.1) none),(de ((z102 a0).2.2) none)]))
 | _=>(false,.bad)
def s_z61:List AV→Bool×AV
 | [db a0 _,.fn 62 [.pbox (.osl 21 (.int .i32)) a1 none]]=>((qdV a0 a1),.tup [(.tup []),.bad,(.pbox (.osl 21 (.int .i32)) (qLK a0 a1) none)])
 | _=>(false,.bad)
def s_z38:List AV→Bool×AV
 | [db a0 _]=>(qhT a0,(.dat (.sl (.int .i32)) (z38 a0) none))
 | _=>(false,.bad)
def s_z106:List AV→Bool×AV
 | [db a0 _]=>(qlx a0,(.dat (.sl (.int .i32)) (z106 a0) (some (2,21))))
 | _=>(false,.bad)
def s_z134:List AV→Bool×AV
 | [di a0 _]=>(true,(di (z134 a0) none))
 | _=>(false,.bad)
def s_z103:List AV→Bool×AV
 | [db a0 _]=>(qul a0,(.dat (.sl (.int .i32)) (z103 a0) (some (2,21))))
 | _=>(false,.bad)
def s_z161:List AV→Bool×AV
 | []=>(true,(.dat (.arr 8 (.pair .byte (.pair (.int .i32) .unit))) z161 none))
 | _=>(false,.bad)
def s_z135:List AV→Bool×AV
 | [dn a0 _]=>(true,(di (z135 a0) none))
 | _=>(false,.bad)
def s_z104:List AV→Bool×AV
 | [db a0 _]=>(quj a0,(.dat (.sl (.int .i32)) (z104 a0) (some (2,21))))
 | _=>(false,.bad)
def s_z162:List AV→Bool×AV
 | []=>(true,(.dat (.sl (.int .i32)) z162 none))
 | _=>(false,.bad)
def s_z136:List AV→Bool×AV
 | [dn a0 _]=>(true,(di (z136 a0) none))
 | _=>(false,.bad)
def s_z105:List AV→Bool×AV
 | [db a0 _]=>(quk a0,(.dat (.sl (.int .i32)) (z105 a0) (some (2,21))))
 | _=>(false,.bad)
def s_z63:List AV→Bool×AV
 | [de a0 _,db a1 _]=>(qFw a0 a1,(.dat (.sl (.int .i32)) (z63 a0 a1) none))
 | _=>(false,.bad)
def s_z173:List AV→Bool×AV
 | [.abs s V x,.pbox (.leaf (.sl .byte)) b0 none]=>((z173 (fun x a0 a1=>V.spec x [⟨.byte,a0⟩,⟨(.int .i64),a1⟩]) x b0).1,.tup [.tup [],.abs s V (z173 (fun x a0 a1=>V.spec x [⟨.byte,a0⟩,⟨(.int .i64),a1⟩]) x b0).2.1,.pbox (.leaf (.sl .byte)) ((z173 (fun x a0 a1=>V.spec x [⟨.byte,a0⟩,⟨(.int .i64),a1⟩]) x b0).2.2) none])
 | _=>(false,.bad)
def qJU:Iter:=⟨[.leaf (.sl .byte)],fun s spec x y=>((z173 (fun x a0 a1=>spec x [⟨.byte,a0⟩,⟨(.int .i64),a1⟩]) x y.1).1,(z173 (fun x a0 a1=>spec x [⟨.byte,a0⟩,⟨(.int .i64),a1⟩]) x y.1).2.1)⟩
def s_z163:List AV→Bool×AV
 | [db a0 _]=>(true,(.abs (qeR [.leaf (.sl .byte)]) (clInv 173 [.leaf (.sl .byte)]) (a0,())))
 | _=>(false,.bad)
def s_z137:List AV→Bool×AV
 | [db a0 _]=>(qun a0,(.tup [(db ((z137 a0).1) none),(de ((z137 a0).2) none)]))
 | _=>(false,.bad)
def s_z107:List AV→Bool×AV
 | [db a0 _]=>(qup a0,(db (z107 a0) none))
 | _=>(false,.bad)
def s_z108:List AV→Bool×AV
 | [db a0 _]=>(quq a0,(db (z108 a0) none))
 | _=>(false,.bad)
def s_z64:List AV→Bool×AV
 | [.dat (.pair (.sl .byte) (.pair (.int .i64) (.pair (.sl .byte) .unit))) a0 _]=>(qFO a0,(db (z64 a0) none))
 | _=>(false,.bad)
def s_z39:List AV→Bool×AV
 | [db a0 _]=>(qkZ a0,(.tup [(.dat (.sl (.int .i32)) ((z39 a0).1) none),(dh ((z39 a0).2) none)]))
 | _=>(false,.bad)
def s_z50:List AV→Bool×AV
 | [.dat (.pair (.int .i64) (.pair (.sl .byte) .unit)) a0 _,.dat (.sl (.int .i32)) a1 _,.fn 1000000007 [.fn 32 [.pbox (.leaf (.int .i64)) a2 none]]]=>((qcS a0 a1 a2),.tup [(.tup []),.bad,.bad,(.pbox (.leaf (.int .i64)) (qlb a0 a1 a2) none)])
 | [.dat (.pair (.int .i64) (.pair (.sl .byte) .unit)) a0 _,.dat (.sl (.int .i32)) a1 _,.fn 1000000007 [.fn 30 [.pbox (.osl 3 (.int .i64)) a2 none]]]=>((qcT a0 a1 a2),.tup [(.tup []),.bad,.bad,(.pbox (.osl 3 (.int .i64)) (qlc a0 a1 a2) none)])
 | _=>(false,.bad)
def s_z20:List AV→Bool×AV
 | [db a0 _,.fn 21 [.pbox (.osl 21 (.int .i32)) a1 none]]=>((qdW a0 a1),.tup [(.tup []),.bad,(.pbox (.osl 21 (.int .i32)) (qyo a0 a1) none)])
 | [db a0 _,.fn 28 [.pbox (.osl 25 (.sl (.int .i32))) a1 none]]=>((qdX a0 a1),.tup [(.tup []),.bad,(.pbox (.osl 25 (.sl (.int .i32))) (qyp a0 a1) none)])
 | [db a0 _,.fn 50 [.fn 1000000007 [.fn 32 [.pbox (.leaf (.int .i64)) a1 none]]]]=>((qdY a0 a1),.tup [(.tup []),.bad,(.pbox (.leaf (.int .i64)) (qyq a0 a1) none)])
 | [db a0 _,.fn 50 [.fn 1000000007 [.fn 30 [.pbox (.osl 3 (.int .i64)) a1 none]]]]=>((qdZ a0 a1),.tup [(.tup []),.bad,(.pbox (.osl 3 (.int .i64)) (qyr a0 a1) none)])
 | _=>(false,.bad)
def s_z11:List AV→Bool×AV
 | [db a0 _]=>(qHP a0,(.dat (.sl (.int .i32)) (z11 a0) none))
 | _=>(false,.bad)
def s_z35:List AV→Bool×AV
 | [db a0 _,db a1 _]=>(qyR a0 a1,(.tup [(db ((z35 a0 a1).1) none),(db ((z35 a0 a1).2.1) none),(dh ((z35 a0 a1).2.2) none)]))
 | _=>(false,.bad)
def s_z19:List AV→Bool×AV
 | [db a0 _]=>(qlm a0,(db (z19 a0) (some (2,5))))
 | _=>(false,.bad)
def s_z9:List AV→Bool×AV
 | [db a0 _]=>(z9_ok a0,(.dat (.sl (.int .i32)) (z9 a0) none))
 | _=>(false,.bad)
def s_z15:List AV→Bool×AV
 | [db a0 _]=>(qCv a0,(.dat (.sl (.sl (.int .i32))) (z15 a0) none))
 | _=>(false,.bad)
def s_z29:List AV→Bool×AV
 | [db a0 _,.fn 32 [.pbox (.leaf (.int .i64)) a1 none]]=>((qea a0 a1),.tup [(.tup []),.bad,(.pbox (.leaf (.int .i64)) (qCy a0 a1) none)])
 | [db a0 _,.fn 30 [.pbox (.osl 3 (.int .i64)) a1 none]]=>((qeb a0 a1),.tup [(.tup []),.bad,(.pbox (.osl 3 (.int .i64)) (qCz a0 a1) none)])
 | _=>(false,.bad)
def s_z16:List AV→Bool×AV
 | [db a0 _]=>(qCu a0,(.dat (.sl (.int .i64)) (z16 a0) none))
 | _=>(false,.bad)
def s_z17:List AV→Bool×AV
 | [db a0 _]=>(qCt a0,(de (z17 a0) none))
 | _=>(false,.bad)
def s_z7:List AV→Bool×AV
 | []=>(true,(dg z7))
 | _=>(false,.bad)
def s_z22:List AV→Bool×AV
 | [db a0 _,de a1 _]=>(qyS a0 a1,(dh (z22 a0 a1) none))
 | _=>(false,.bad)
def s_z13:List AV→Bool×AV
 | [db a0 _]=>(qJL a0,(.tup [(db ((z13 a0).1) none),(de ((z13 a0).2) none)]))
 | _=>(false,.bad)
def s_z65:List AV→Bool×AV
 | [dn a0 _]=>(true,(dh (z65 a0) none))
 | _=>(false,.bad)
def s_z67:List AV→Bool×AV
 | [db a0 _]=>(qJD a0,(.dat (.sl (.sl .byte)) (z67 a0) none))
 | _=>(false,.bad)
def s_z109:List AV→Bool×AV
 | [dn a0 _]=>(true,(dn (z109 a0) none))
 | _=>(false,.bad)
def s_z68:List AV→Bool×AV
 | [dn a0 _]=>(true,(de (z68 a0) none))
 | _=>(false,.bad)
def s_z140:List AV→Bool×AV
 | [df a0 _,dn a1 _]=>(qKS a0 a1,(dh (z140 a0 a1) none))
 | _=>(false,.bad)
def s_z114:List AV→Bool×AV
 | [dn a0 _]=>(true,(de (z114 a0) none))
 | _=>(false,.bad)
def s_z79:List AV→Bool×AV
 | [dn a0 _,de a1 _]=>(true,(dh (z79 a0 a1) none))
 | _=>(false,.bad)
def s_z69:List AV→Bool×AV
 | [db a0 _,de a1 _]=>(qyV a0 a1,(de (z69 a0 a1) none))
 | _=>(false,.bad)
def s_z42:List AV→Bool×AV
 | [db a0 _]=>(qlk a0,(.tup [(.dat (.pair (.sl .byte) (.pair (.int .i64) (.pair (.sl .byte) .unit))) ((z42 a0).1) none),(de ((z42 a0).2) none)]))
 | _=>(false,.bad)
def s_z66:List AV→Bool×AV
 | [db a0 _]=>(qJE a0,(de (z66 a0) none))
 | _=>(false,.bad)
def s_z40:List AV→Bool×AV
 | [db a0 _]=>(qJH a0,(.dat (.sl (.pair (.int .i64) (.pair (.sl .byte) .unit))) (z40 a0) (some (2,46))))
 | _=>(false,.bad)
def s_z41:List AV→Bool×AV
 | [.dat (.sl (.pair (.int .i64) (.pair (.sl .byte) .unit))) a0 _,de a1 _]=>(qyL a0 a1,(dh (z41 a0 a1) none))
 | _=>(false,.bad)
def s_z23:List AV→Bool×AV
 | [db a0 _]=>(qJJ a0,(.dat (.sl (.pair (.int .i64) (.pair (.sl .byte) .unit))) (z23 a0) (some (2,46))))
 | _=>(false,.bad)
def s_z76:List AV→Bool×AV
 | [db a0 _]=>(qFP a0,(db (z76 a0) (some (2,5))))
 | _=>(false,.bad)
def s_z113:List AV→Bool×AV
 | [db a0 _]=>(qwv a0,(db (z113 a0) none))
 | _=>(false,.bad)
def s_z77:List AV→Bool×AV
 | [db a0 _]=>(qFA a0,(db (z77 a0) none))
 | _=>(false,.bad)
def s_z78:List AV→Bool×AV
 | [de a0 _]=>(true,(.dat (.sl .str) (z78 a0) (some (2,9))))
 | _=>(false,.bad)
def s_z46:List AV→Bool×AV
 | [db a0 _]=>(qxc a0,(.tup [(de ((z46 a0).1) none),(de ((z46 a0).2) none)]))
 | _=>(false,.bad)
def s_z25:List AV→Bool×AV
 | [db a0 _]=>(qrL a0,(de (z25 a0) none))
 | _=>(false,.bad)
def s_z138:List AV→Bool×AV
 | [de a0 _]=>(true,(dn (z138 a0) none))
 | _=>(false,.bad)
def s_z110:List AV→Bool×AV
 | [dn a0 _]=>(true,(.tup [(de ((z110 a0).1) none),(dh ((z110 a0).2) none)]))
 | _=>(false,.bad)
def s_z70:List AV→Bool×AV
 | [db a0 _]=>(qFE a0,(.tup [(db ((z70 a0).1) none),(de ((z70 a0).2) none)]))
 | _=>(false,.bad)
def s_z71:List AV→Bool×AV
 | [db a0 _]=>(qxd a0,(.tup [(.dat (.sl (.int .i64)) ((z71 a0).1) none),(dh ((z71 a0).2) none)]))
 | _=>(false,.bad)
def s_z111:List AV→Bool×AV
 | [.dat (.sl (.int .i64)) a0 _]=>(qfE a0,(de (z111 a0) none))
 | _=>(false,.bad)
def s_z72:List AV→Bool×AV
 | [.dat (.sl (.int .i64)) a0 _]=>(qxe a0,(.tup [(db ((z72 a0).1) none),(dh ((z72 a0).2) none)]))
 | _=>(false,.bad)
def s_z43:List AV→Bool×AV
 | [db a0 _]=>(qFF a0,(.tup [(db ((z43 a0).1) none),(de ((z43 a0).2) none)]))
 | _=>(false,.bad)
def s_z139:List AV→Bool×AV
 | [de a0 _]=>(qlv a0,(dn (z139 a0) none))
 | _=>(false,.bad)
def s_z112:List AV→Bool×AV
 | [dn a0 _]=>(true,(.tup [(de ((z112 a0).1) none),(dh ((z112 a0).2) none)]))
 | _=>(false,.bad)
def s_z73:List AV→Bool×AV
 | [db a0 _,de a1 _,dn a2 _]=>(qFv a0 a1 a2,(.tup [(dn ((z73 a0 a1 a2).1) none),(dh ((z73 a0 a1 a2).2) none)]))
 | _=>(false,.bad)
def s_z44:List AV→Bool×AV
 | [db a0 _]=>(qxf a0,(.tup [(db ((z44 a0).1) none),(de ((z44 a0).2) none)]))
 | _=>(false,.bad)
def s_z81:List AV→Bool×AV
 | [dn a0 _]=>(true,(de (z81 a0) none))
 | _=>(false,.bad)
def s_z115:List AV→Bool×AV
 | [dn a0 _]=>(true,(.tup [(dn ((z115 a0).1) none),(dn ((z115 a0).2) none)]))
 | _=>(false,.bad)
def s_z80:List AV→Bool×AV
 | [db a0 _]=>(qFx a0,(de (z80 a0) none))
 | _=>(false,.bad)
def s_z49:List AV→Bool×AV
 | [db a0 _]=>(qFy a0,(.tup [(di ((z49 a0).1) none),(de ((z49 a0).2.1) none),(de ((z49 a0).2.2) none)]))
 | _=>(false,.bad)
def s_z27:List AV→Bool×AV
 | [db a0 _]=>(qwZ a0,(.tup [(.dat (.sl (.int .i32)) ((z27 a0).1) none),(de ((z27 a0).2.1) none),(de ((z27 a0).2.2) none)]))
 | _=>(false,.bad)
def s_z74:List AV→Bool×AV
 | [dn a0 _]=>(true,(di (z74 a0) none))
 | _=>(false,.bad)
def s_z75:List AV→Bool×AV
 | [dn a0 _]=>(true,(di (z75 a0) none))
 | _=>(false,.bad)
def s_z45:List AV→Bool×AV
 | [de a0 _,db a1 _]=>(qxa a0 a1,(.dat (.sl (.int .i32)) (z45 a0 a1) none))
 | _=>(false,.bad)
def s_z24:List AV→Bool×AV
 | [db a0 _]=>(qFM a0,(.tup [(.dat (.sl (.int .i32)) ((z24 a0).1) none),(dh ((z24 a0).2) none)]))
 | _=>(false,.bad)
def s_z47:List AV→Bool×AV
 | [db a0 _]=>(qFC a0,(.tup [(db ((z47 a0).1) none),(de ((z47 a0).2) none)]))
 | _=>(false,.bad)
def s_z48:List AV→Bool×AV
 | [db a0 _]=>(qFI a0,(de (z48 a0) none))
 | _=>(false,.bad)
def s_z26:List AV→Bool×AV
 | [db a0 _]=>(qFK a0,(dh (z26 a0) none))
 | _=>(false,.bad)
def s_z14:List AV→Bool×AV
 | [db a0 _]=>(qHQ a0,(.tup [(.dat (.sl (.sl (.int .i32))) ((z14 a0).1) none),(de ((z14 a0).2.1) none),(.dat (.sl (.int .i64)) ((z14 a0).2.2) none)]))
 | _=>(false,.bad)
def s_z4:List AV→Bool×AV
 | [db a0 _]=>(true,(dh (z4 a0) none))
 | _=>(false,.bad)
theorem qpB:qe G Tryz.prog 150 s_z150:=fun w S hg vals avs r h hS ha=>by
 unfold s_z150 at h;split at h
 ·simp only [yb,true_and] at h;subst h;exact qyM Tryz.func150 (by kernel_rfl) (by kernel_rfl) (by kernel_rfl) (by kernel_rfl) hS ha
 ·cases h
def s_z155 (m0:Int):List AV→Bool×AV
 | [df a0 _,df a1 _]=>(qrd m0 a0 a1,(de (z155 a0 a1) none))
 | _=>(false,.bad)
theorem qAs (m0:Int):qe (Gm m0) Tryz.prog 155 (s_z155 m0):=fun w S hg vals avs r h hS ha=>by
 unfold s_z155 at h;split at h
 ·obtain ⟨hp,rfl⟩:=yj h;simp only [qrd,yf,ym] at hp;have hm:w.cell? ⟨0,0,none⟩=some (.int .i64 m0):=by
   cases hg.2 0 (.int .i64) m0 rfl with
   | adr _ _ ad cs h1 h2 =>
    have e:cs=[.int .i64 m0]:=h1;subst e;exact ((h2.2 (by simp)).2 0 _ rfl).2
  exact qyN Tryz.func155 (by kernel_rfl) (by kernel_rfl) (by kernel_rfl) (by kernel_rfl) (g:=0) (by kernel_rfl) hm hS ha hp.1.1 hp.1.2 hp.2
 ·cases h
theorem qAt:qe G Tryz.prog 151 s_z151:=fun w S hg vals avs r h hS ha=>by
 unfold s_z151 at h;split at h
 ·simp only [yb] at h;cases h.1
 ·cases h
theorem qAu:qe G Tryz.prog 154 s_z154:=fun w S hg vals avs r h hS ha=>by
 unfold s_z154 at h;split at h
 ·obtain ⟨hp,rfl⟩:=yj h;obtain ⟨m,hm⟩:=hg;exact qyO hm.1 hS ha (by simpa [qre] using hp)
 ·cases h
theorem qmP:qe G Tryz.prog 57 s_z57:=fun w S hg vals avs r h hS ha=>by
 unfold s_z57 at h;split at h
 ·obtain ⟨hp,rfl⟩:=yj h;unfold qrf at hp;simp only [yf,ym] at hp;obtain ⟨m,hm⟩:=hg;have hc:w.cell? ⟨0,0,none⟩=some (.int .i64 m):=by
   cases hm.2 0 (.int .i64) m rfl with
   | adr _ _ ad cs h1 h2 =>
    have e:cs=[.int .i64 m]:=h1;subst e;exact ((h2.2 (by simp)).2 0 _ rfl).2
  exact qEC hc hS ha (qd hp.1) (qd hp.2.1) hp.2.2
 ·cases h
theorem qii:qe G Tryz.prog 83 s_z83:=fun w S hg vals avs r h hS ha=>by
 unfold s_z83 at h;split at h
 ·obtain ⟨hp,rfl⟩:=yj h;exact qED hS ha (qd hp)
 ·cases h
theorem qpC:qe G Tryz.prog 149 s_z149:=fun w S hg vals avs r h hS ha=>by
 unfold s_z149 at h;split at h
 ·simp only [yb] at h;cases h.1
 ·cases h
theorem qAv:qe G Tryz.prog 158 s_z158:=fun w S hg vals avs r h hS ha=>by
 unfold s_z158 at h;split at h
 ·simp only [yb] at h;cases h.1
 ·cases h
theorem qAw:qe G Tryz.prog 165 s_z165:=fun w S hg vals avs r h hS ha=>by
 unfold s_z165 at h;split at h
 ·simp only [yb,true_and] at h;subst h;exact qyP hS ha
 ·cases h
theorem qAx:qe G Tryz.prog 141 s_z141:=fun w S hg vals avs r h hS ha=>by
 unfold s_z141 at h;split at h
 ·simp only [yb] at h;cases h.1
 ·cases h
theorem qAy:qe G Tryz.prog 164 s_z164:=fun w S hg vals avs r h hS ha=>by
 unfold s_z164 at h;split at h
 ·simp only [yb] at h;cases h.1
 ·cases h
theorem qAz:qe G Tryz.prog 123 s_z123:=fun w S hg vals avs r h hS ha=>by
 unfold s_z123 at h;split at h
 ·simp only [yb,true_and] at h;subst h;exact qyQ hS ha
 ·cases h
def E_z8:EnvP:=eQ [] 26 (some [4]) (fun x=>if x=4 then some [0,1,5] else none) (fun x=>if x=0 then some [] else if x=1 then some [0,1,5] else none) nP
def C_z8:Code:=cO Tryz.f8
def R_z8:Array ResultVar:=Tryz.f8.results
noncomputable def qGg (K:Ex→Fr→OA):=fun s4=>K .ret (frOf [(4,dg s4)])
def qGh (n:Nat):Ex→Fr→OA:=qg 0 (E_z8.cutb 0) (kSeq (evCP E_z8 (evLP E_z8 n) (sub C_z8 [1,1,1])) (kFnP E_z8 R_z8))
def qLQ (a0:LI) (b1:LI) (i5:Int):Fr:=frOf [(0,(.dat (.sl (.int .i32)) a0 none)),(1,(.dat (.sl (.int .i32)) b1 none)),(5,dc i5)]
theorem qLR (K:Ex→Fr→OA):∀ (n:Nat) (a0:LI) (b1:LI) (i5:Int),evLP E_z8 n (sub C_z8 [1,1,0,1,0,0]) K (qLQ a0 b1 i5)=z8_l4 (qGg K) (K (.exit 0) (frOf [])) n a0 b1 i5:=by
 intro n;induction n with
 | zero=>intros; rfl
 | succ n IH =>
 intro a0 b1 i5;have ih:(fun a0 b1 i5=>evLP E_z8 n (sub C_z8 [1,1,0,1,0,0]) K (qLQ a0 b1 i5))=z8_l4 (qGg K) (K (.exit 0) (frOf [])) n:=by
  funext a0 b1 i5;exact IH a0 b1 i5
 show _=qlE (qGg K) (K (.exit 0) (frOf [])) (z8_l4 (qGg K) (K (.exit 0) (frOf [])) n) n a0 b1 i5;rw [← ih];kernel_rfl
theorem qAA (n:Nat)  : (qGh n) (.exit 0) (frOf [])=qvv n  := by
 kernel_rfl
theorem z8_ev (n:Nat) (a0:LI) (o0:Lab) (b1:LI) (o1:Lab):evFnP E_z8 n C_z8 R_z8 [.dat (.sl (.int .i32)) a0 o0,.dat (.sl (.int .i32)) b1 o1]=z8_sh n a0 b1:=by
 unfold z8_sh;rw [show z8_l4 qyC (qvv n) n=(fun a0 b1 i5=>evLP E_z8 n (sub C_z8 [1,1,0,1,0,0]) (qGh n) (qLQ a0 b1 i5)) from by
  funext a0 b1 i5;refine Eq.trans ?_ (qLR (qGh n) n a0 b1 i5).symm;rw [show ((qGh n) (.exit 0) (frOf []))=(qvv n) from by
   exact qAA n ]
  all_goals kernel_rfl]
 kernel_rfl
theorem qAB:qe G Tryz.prog 8 s_z8:=by
 refine sQ (E:=E_z8) (c:=C_z8) rfl (fun w S hg=>qc) Tryz.func8 ?_;intro avs r h;unfold s_z8 at h;split at h
 ·obtain ⟨hp,rfl⟩:=yj h;obtain ⟨n,hn⟩:=qSW _ _ hp;exact ⟨n,_,(z8_ev n _ _ _ _).trans hn,.inl rfl⟩
 ·cases h
def E_z21:EnvP:=eQ [] 8 (some [10]) nC nC (fun x=>if x=5 then some (.osl 21 (.int .i32)) else if x=7 then some (.osl 21 (.int .i32)) else none)
def C_z21:Code:=cO Tryz.f21
def R_z21:Array ResultVar:=Tryz.f21.results
theorem qTx (n:Nat) (x0:Int×(LU×Unit)) (o0:Lab) (t1:LI) (o1:Lab) (x2:LI):evFnM E_z21 n C_z21 R_z21 [.dat (.pair (.int .i64) (.pair (.sl .byte) .unit)) x0 o0,.dat (.sl (.int .i32)) t1 o1,.pbox (.osl 21 (.int .i32)) x2 none]=qMi n x0 t1 x2:=by
 kernel_rfl
theorem qGi:qhN G Tryz.prog 21 s_z21:=by
 refine qT G_stays (E:=E_z21) (fn:=Tryz.f21) (c:=C_z21) (qj rfl qbd) (fun w S hg=>⟨⟨qc,fun f sp h=>qac f sp h w S⟩,qai w S hg,(fun _ _ h=>by cases h),(fun f sp h=>qaC f sp h),(fun f it h=>qaD f it h),(fun t kt vt h=>qah t kt vt h)⟩) follows Tryz.func21 (by kernel_rfl) (by kernel_rfl) (by kernel_rfl) ?_;intro avs r h;unfold s_z21 at h;split at h
 ·obtain ⟨hp,rfl⟩:=yj h;obtain ⟨n,hn⟩:=qLX _ _ _ hp;exact ⟨n,(qTx n _ _ _ _ _).trans hn⟩
 ·cases h
def E_z28:EnvP:=eQ [] 9 (some [11]) nC nC (fun x=>if x=5 then some (.osl 25 (.sl (.int .i32))) else if x=8 then some (.osl 25 (.sl (.int .i32))) else none)
def C_z28:Code:=cO Tryz.f28
def R_z28:Array ResultVar:=Tryz.f28.results
theorem qTy (n:Nat) (x0:Int×(LU×Unit)) (o0:Lab) (t1:LI) (o1:Lab) (x2:List LI):evFnM E_z28 n C_z28 R_z28 [.dat (.pair (.int .i64) (.pair (.sl .byte) .unit)) x0 o0,.dat (.sl (.int .i32)) t1 o1,.pbox (.osl 25 (.sl (.int .i32))) x2 none]=qMj n x0 t1 x2:=by
 kernel_rfl
theorem qGj:qhN G Tryz.prog 28 s_z28:=by
 refine qT G_stays (E:=E_z28) (fn:=Tryz.f28) (c:=C_z28) (qj rfl qbd) (fun w S hg=>⟨⟨qc,fun f sp h=>qac f sp h w S⟩,qai w S hg,(fun _ _ h=>by cases h),(fun f sp h=>qaC f sp h),(fun f it h=>qaD f it h),(fun t kt vt h=>qah t kt vt h)⟩) follows Tryz.func28 (by kernel_rfl) (by kernel_rfl) (by kernel_rfl) ?_;intro avs r h;unfold s_z28 at h;split at h
 ·obtain ⟨hp,rfl⟩:=yj h;obtain ⟨n,hn⟩:=qLY _ _ _ hp;exact ⟨n,(qTy n _ _ _ _ _).trans hn⟩
 ·cases h
def E_z91:EnvP:=eQ [(123,s_z123)] 8 (some [4]) nC nC nP
def C_z91:Code:=cO Tryz.f91
def R_z91:Array ResultVar:=Tryz.f91.results
theorem qTz (n:Nat) (b0:LU) (o0:Lab) (c1:UInt8) (o1:Lab):evFnP E_z91 n C_z91 R_z91 [db b0 o0,dn c1 o1]=qSI n b0 c1:=by
 kernel_rfl
theorem quz:qe G Tryz.prog 91 s_z91:=by
 refine sQ (E:=E_z91) (c:=C_z91) rfl (fun w S hg=>(qa (qAz w S hg) qc)) Tryz.func91 ?_;intro avs r h;unfold s_z91 at h;split at h <;> cases h
 obtain ⟨n,hn⟩:=qNI _ _;exact ⟨n,_,(qTz n _ _ _ _).trans hn,.inl rfl⟩
def E_z93:EnvP:=eQ [] 10 (some [4]) nC nC nP
def C_z93:Code:=cO Tryz.f93
def R_z93:Array ResultVar:=Tryz.f93.results
theorem qTA (n:Nat) (a0:LU) (o0:Lab) (b1:LU) (o1:Lab):evFnP E_z93 n C_z93 R_z93 [db a0 o0,db b1 o1]=qSJ n a0 b1:=by
 kernel_rfl
theorem qGk:qe G Tryz.prog 93 s_z93:=by
 refine sQ (E:=E_z93) (c:=C_z93) rfl (fun w S hg=>qc) Tryz.func93 ?_;intro avs r h;unfold s_z93 at h;split at h <;> cases h
 obtain ⟨n,hn⟩:=qNB _ _;exact ⟨n,_,(qTA n _ _ _ _).trans hn,.inl rfl⟩
def qmQ:EnvP:=eQ [(57,s_z57),(164,s_z164),(165,s_z165)] 35 (some [4]) (fun x=>if x=6 then some [0,1,5] else none) (fun x=>if x=0 then some [4] else if x=1 then some [0,1,5] else none) nP
def qAC:Code:=cO Tryz.f142
def qLS:Array ResultVar:=Tryz.f142.results
noncomputable def qmR (K:Ex→Fr→OA):=fun s4=>K .ret (frOf [(4,dc s4)])
def qrM (s0:LU) (sep1:LU) (n5:Int):Fr:=frOf [(0,da s0),(1,da sep1),(5,dc n5)]
theorem qAD (K:Ex→Fr→OA):∀ (n:Nat) (s0:LU) (sep1:LU) (n5:Int),evLP qmQ n (sub qAC [1,1,1,1,0,0]) K (qrM s0 sep1 n5)=qlF (qmR K) n s0 sep1 n5:=by
 intro n;induction n with
 | zero=>intros; rfl
 | succ n IH =>
 intro s0 sep1 n5;have ih:(fun s0 sep1 n5=>evLP qmQ n (sub qAC [1,1,1,1,0,0]) K (qrM s0 sep1 n5))=qlF (qmR K) n:=by
  funext s0 sep1 n5;exact IH s0 sep1 n5
 show _=qvw (qmR K) (qlF (qmR K) n) n s0 sep1 n5;rw [← ih];kernel_rfl
theorem qPC (n:Nat) (s0:LU) (o0:Lab) (sep1:LU) (o1:Lab):evFnP qmQ n qAC qLS [db s0 o0,db sep1 o1]=qCE n s0 sep1:=by
 unfold qCE;rw [show qlF qjK n=(fun s0 sep1 n5=>evLP qmQ n (sub qAC [1,1,1,1,0,0]) (qg 0 (qmQ.cutb 0) (kFnP qmQ qLS)) (qrM s0 sep1 n5)) from by
  funext s0 sep1 n5;refine Eq.trans ?_ (qAD (qg 0 (qmQ.cutb 0) (kFnP qmQ qLS)) n s0 sep1 n5).symm;all_goals kernel_rfl]
 kernel_rfl
theorem qAE:qe G Tryz.prog 142 s_z142:=by
 refine sQ (E:=qmQ) (c:=qAC) rfl (fun w S hg=>(qa (qmP w S hg) (qa (qAy w S hg) (qa (qAw w S hg) qc)))) Tryz.func142 ?_;intro avs r h;unfold s_z142 at h;split at h
 ·obtain ⟨hp,rfl⟩:=yj h;obtain ⟨n,hn⟩:=qIz _ _ hp;exact ⟨n,_,(qPC n _ _ _ _).trans hn,.inl rfl⟩
 ·cases h
def qmS:EnvP:=eQ [(57,s_z57),(141,s_z141),(142,s_z142)] 70 (some [1000008]) (fun x=>if x=11 then some [0,1,2,3,9,10] else none) (fun x=>if x=0 then some [0,9,10] else if x=1 then some [0,1,2,3,9,10] else none) (fun x=>if x=32 then some (.psl 22 (.leaf (.sl .byte))) else none)
def qxn:Code:=cO Tryz.f116
def qPD:Array ResultVar:=Tryz.f116.results
noncomputable def qjk (K:Ex→Fr→OA):=fun s0 a9 i10=>K (.exit 0) (frOf [(0,da s0),(9,(.pv (.psl 22 (.leaf (.sl .byte))) a9 none)),(10,dc i10)])
def qmT (n:Nat):Ex→Fr→OA:=qg 0 (qmS.cutb 0) (kSeq (evCP qmS (evLP qmS n) (sub qxn [1,1,1,1,1,1,1,1,1])) (kFnP qmS qPD))
def qrN (s0:LU) (sep1:LU) (sepSave2:Int) (n3:Int) (a9:List LU) (i10:Int):Fr:=frOf [(0,da s0),(1,da sep1),(2,dc sepSave2),(3,dc n3),(9,(.pv (.psl 22 (.leaf (.sl .byte))) a9 none)),(10,dc i10)]
theorem qxo (K:Ex→Fr→OA):∀ (n:Nat) (s0:LU) (sep1:LU) (sepSave2:Int) (n3:Int) (a9:List LU) (i10:Int),evLP qmS n (sub qxn [1,1,1,1,1,1,1,1,0,0,0]) K (qrN s0 sep1 sepSave2 n3 a9 i10)=qcs (qjk K) n s0 sep1 sepSave2 n3 a9 i10:=by
 intro n;induction n with
 | zero=>intros; rfl
 | succ n IH =>
 intro s0 sep1 sepSave2 n3 a9 i10;have ih:(fun s0 sep1 sepSave2 n3 a9 i10=>evLP qmS n (sub qxn [1,1,1,1,1,1,1,1,0,0,0]) K (qrN s0 sep1 sepSave2 n3 a9 i10))=qcs (qjk K) n:=by
  funext s0 sep1 sepSave2 n3 a9 i10;exact IH s0 sep1 sepSave2 n3 a9 i10
 show _=qcz (qjk K) (qcs (qjk K) n) n s0 sep1 sepSave2 n3 a9 i10;rw [← ih];kernel_rfl
theorem qpD (n:Nat) (s0:LU) (a9:List LU) (i10:Int):(qmT n) (.exit 0) (frOf [(0,da s0),(9,(.pv (.psl 22 (.leaf (.sl .byte))) a9 none)),(10,dc i10)])=qal n s0 a9 i10:=by
 kernel_rfl
theorem qPE (n:Nat) (s0:LU) (o0:Lab) (sep1:LU) (o1:Lab) (sepSave2:Int) (o2:Lab) (n3:Int) (o3:Lab):evFnP qmS n qxn qPD [db s0 o0,db sep1 o1,de sepSave2 o2,de n3 o3]=qvx n s0 sep1 sepSave2 n3:=by
 unfold qvx qbf qbe;rw [show qcs (qal n) n=(fun s0 sep1 sepSave2 n3 a9 i10=>evLP qmS n (sub qxn [1,1,1,1,1,1,1,1,0,0,0]) (qmT n) (qrN s0 sep1 sepSave2 n3 a9 i10)) from by
  funext s0 sep1 sepSave2 n3 a9 i10;refine Eq.trans ?_ (qxo (qmT n) n s0 sep1 sepSave2 n3 a9 i10).symm;rw [show (qjk (qmT n))=(qal n) from by
   funext s0 a9 i10;exact qpD n s0 a9 i10]
  all_goals kernel_rfl]
 kernel_rfl
theorem qAF:qe G Tryz.prog 116 s_z116:=by
 refine sQ (E:=qmS) (c:=qxn) rfl (fun w S hg=>(qa (qmP w S hg) (qa (qAx w S hg) (qa (qAE w S hg) qc)))) Tryz.func116 ?_;intro avs r h;unfold s_z116 at h;split at h
 ·obtain ⟨hp,rfl⟩:=yj h;obtain ⟨n,hn⟩:=qIA _ _ _ _ hp;exact ⟨n,_,(qPE n _ _ _ _ _ _ _ _).trans hn,.inl rfl⟩
 ·cases h
def E_z82:EnvP:=eQ [(116,s_z116)] 8 (some [4]) nC nC nP
def C_z82:Code:=cO Tryz.f82
def R_z82:Array ResultVar:=Tryz.f82.results
theorem qTB (n:Nat) (s0:LU) (o0:Lab) (sep1:LU) (o1:Lab):evFnP E_z82 n C_z82 R_z82 [db s0 o0,db sep1 o1]=qMk n s0 sep1:=by
 kernel_rfl
theorem qGl:qe G Tryz.prog 82 s_z82:=by
 refine sQ (E:=E_z82) (c:=C_z82) rfl (fun w S hg=>(qa (qAF w S hg) qc)) Tryz.func82 ?_;intro avs r h;unfold s_z82 at h;split at h
 ·obtain ⟨hp,rfl⟩:=yj h;obtain ⟨n,hn⟩:=qNt _ _ hp;exact ⟨n,_,(qTB n _ _ _ _).trans hn,.inl rfl⟩
 ·cases h
def qPF:EnvP:=eQ [] 12 (some [2]) nC nC nP
def qPG:Code:=cO Tryz.f118
def qTC:Array ResultVar:=Tryz.f118.results
theorem qPH (n:Nat) (c0:UInt8) (o0:Lab):evFnP qPF n qPG qTC [dn c0 o0]=qCF n c0:=by
 kernel_rfl
theorem qpE:qe G Tryz.prog 118 s_z118:=by
 refine sQ (E:=qPF) (c:=qPG) rfl (fun w S hg=>qc) Tryz.func118 ?_;intro avs r h;unfold s_z118 at h;split at h <;> cases h
 obtain ⟨n,hn⟩:=qIt _;exact ⟨n,_,(qPH n _ _).trans hn,.inl rfl⟩
def E_z87:EnvP:=eQ [(83,s_z83),(118,s_z118)] 22 (some [2]) (fun x=>if x=3 then some [3,8,9,10] else none) (fun x=>if x=0 then some [3] else if x=1 then some [3,8,9,10] else none) (fun x=>if x=7 then some (.psl 5 (.leaf .byte)) else none)
def C_z87:Code:=cO Tryz.f87
def R_z87:Array ResultVar:=Tryz.f87.results
noncomputable def qpF (K:Ex→Fr→OA):=fun out3=>K (.exit 0) (frOf [(3,(.pv (.psl 5 (.leaf .byte)) out3 none))])
def quA (n:Nat):Ex→Fr→OA:=qg 0 (E_z87.cutb 0) (kSeq (evCP E_z87 (evLP E_z87 n) (sub C_z87 [1,1,1])) (kFnP E_z87 R_z87))
def qAG (out3:LU) (s9:Int) (s10:Int):Fr:=frOf [(3,(.pv (.psl 5 (.leaf .byte)) out3 none)),(8,(.pval 3 [])),(9,dc s9),(10,dc s10)]
theorem qGm (K:Ex→Fr→OA):∀ (n:Nat) (out3:LU) (s9:Int) (s10:Int),evLP E_z87 n (sub C_z87 [1,1,0,1,0,0]) K (qAG out3 s9 s10)=qof (qpF K) n out3 s9 s10:=by
 intro n;induction n with
 | zero=>intros; rfl
 | succ n IH =>
 intro out3 s9 s10;have ih:(fun out3 s9 s10=>evLP E_z87 n (sub C_z87 [1,1,0,1,0,0]) K (qAG out3 s9 s10))=qof (qpF K) n:=by
  funext out3 s9 s10;exact IH out3 s9 s10
 show _=qgF (qpF K) (qof (qpF K) n) n out3 s9 s10;rw [← ih];kernel_rfl
theorem qxp (n:Nat) (out3:LU):(quA n) (.exit 0) (frOf [(3,(.pv (.psl 5 (.leaf .byte)) out3 none))])=qjM n out3:=by
 kernel_rfl
theorem qTD (n:Nat) (s0:LU) (o0:Lab):evFnP E_z87 n C_z87 R_z87 [db s0 o0]=qHS n s0:=by
 unfold qHS;rw [show qof (qjM n) n=(fun out3 s9 s10=>evLP E_z87 n (sub C_z87 [1,1,0,1,0,0]) (quA n) (qAG out3 s9 s10)) from by
  funext out3 s9 s10;refine Eq.trans ?_ (qGm (quA n) n out3 s9 s10).symm;rw [show (qpF (quA n))=(qjM n) from by
   funext out3;exact qxp n out3]
  all_goals kernel_rfl]
 kernel_rfl
theorem quB:qe G Tryz.prog 87 s_z87:=by
 refine sQ (E:=E_z87) (c:=C_z87) rfl (fun w S hg=>(qa (qii w S hg) (qa (qpE w S hg) qc))) Tryz.func87 ?_;intro avs r h;unfold s_z87 at h;split at h
 ·obtain ⟨hp,rfl⟩:=yj h;obtain ⟨n,hn⟩:=qNo _ hp;exact ⟨n,_,(qTD n _ _).trans hn,.inl rfl⟩
 ·cases h
def E_z84:EnvP:=eQ [(87,s_z87)] 10 (some [2]) nC (fun x=>if x=0 then some [] else none) nP
def C_z84:Code:=cO Tryz.f84
def R_z84:Array ResultVar:=Tryz.f84.results
theorem qTE (n:Nat) (s0:LU) (o0:Lab):evFnP E_z84 n C_z84 R_z84 [db s0 o0]=qMl n s0:=by
 kernel_rfl
theorem qGn:qe G Tryz.prog 84 s_z84:=by
 refine sQ (E:=E_z84) (c:=C_z84) rfl (fun w S hg=>(qa (quB w S hg) qc)) Tryz.func84 ?_;intro avs r h;unfold s_z84 at h;split at h
 ·obtain ⟨hp,rfl⟩:=yj h;obtain ⟨n,hn⟩:=qNu _ hp;exact ⟨n,_,(qTE n _ _).trans hn,.inl rfl⟩
 ·cases h
def E_z97:EnvP:=eQ [] 46 (some [2]) nC (fun x=>if x=0 then some [3] else none) nP
def C_z97:Code:=cO Tryz.f97
def R_z97:Array ResultVar:=Tryz.f97.results
theorem qTF (n:Nat) (c0:UInt8) (o0:Lab):evFnP E_z97 n C_z97 R_z97 [dn c0 o0]=qMm n c0:=by
 kernel_rfl
theorem qGo:qe G Tryz.prog 97 s_z97:=by
 refine sQ (E:=E_z97) (c:=C_z97) rfl (fun w S hg=>qc) Tryz.func97 ?_;intro avs r h;unfold s_z97 at h;split at h <;> cases h
 obtain ⟨n,hn⟩:=qNk _;exact ⟨n,_,(qTF n _ _).trans hn,.inl rfl⟩
def qPI:EnvP:=eQ [(150,s_z150)] 8 (some [4]) nC nC nP
def qPJ:Code:=cO Tryz.f145
def qTG:Array ResultVar:=Tryz.f145.results
theorem qPK (n:Nat) (s0:LU) (o0:Lab) (c1:UInt8) (o1:Lab):evFnP qPI n qPJ qTG [df s0 o0,dn c1 o1]=qKc n s0 c1:=by
 kernel_rfl
theorem qAH:qe G Tryz.prog 145 s_z145:=by
 refine sQ (E:=qPI) (c:=qPJ) rfl (fun w S hg=>(qa (qpB w S hg) qc)) Tryz.func145 ?_;intro avs r h;unfold s_z145 at h;split at h <;> cases h
 obtain ⟨n,hn⟩:=qIm _ _;exact ⟨n,_,(qPK n _ _ _ _).trans hn,.inl rfl⟩
def qPL:EnvP:=eQ [(145,s_z145)] 8 (some [4]) nC nC nP
def qPM:Code:=cO Tryz.f126
def qTH:Array ResultVar:=Tryz.f126.results
theorem qPN (n:Nat) (s0:LU) (o0:Lab) (c1:UInt8) (o1:Lab):evFnP qPL n qPM qTH [df s0 o0,dn c1 o1]=qKd n s0 c1:=by
 kernel_rfl
theorem qpG:qe G Tryz.prog 126 s_z126:=by
 refine sQ (E:=qPL) (c:=qPM) rfl (fun w S hg=>(qa (qAH w S hg) qc)) Tryz.func126 ?_;intro avs r h;unfold s_z126 at h;split at h <;> cases h
 obtain ⟨n,hn⟩:=qIn _ _;exact ⟨n,_,(qPN n _ _ _ _).trans hn,.inl rfl⟩
def E_z98:EnvP:=eQ [(126,s_z126)] 9 (some [4]) nC nC nP
def C_z98:Code:=cO Tryz.f98
def R_z98:Array ResultVar:=Tryz.f98.results
theorem qTI (n:Nat) (s0:LU) (o0:Lab) (c1:UInt8) (o1:Lab):evFnP E_z98 n C_z98 R_z98 [df s0 o0,dn c1 o1]=qSK n s0 c1:=by
 kernel_rfl
theorem qGp:qe G Tryz.prog 98 s_z98:=by
 refine sQ (E:=E_z98) (c:=C_z98) rfl (fun w S hg=>(qa (qpG w S hg) qc)) Tryz.func98 ?_;intro avs r h;unfold s_z98 at h;split at h <;> cases h
 obtain ⟨n,hn⟩:=qNl _ _;exact ⟨n,_,(qTI n _ _ _ _).trans hn,.inl rfl⟩
end
end Go.Av
