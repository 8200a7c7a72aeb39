import Derived.Test.YtopepdfipgfakaaGreatDoorEfP12
import Derived.Test.YtopepdfipgfakaaGreatDoorEfLayX
import Derived.Test.YtopepdfipgfakaaGreatDoorProg
import Derived.KernelRfl
namespace Go.Av
set_option linter.unusedSimpArgs false
open Go.Proofs
set_option maxRecDepth 100000
set_option linter.unusedVariables false
def tis:List (TypeId×TI):=[(2,⟨some (.int .i64),8,0⟩),
 (3,⟨some (.int .i64),8,0⟩),
 (4,⟨some .bool,1,0⟩),
 (5,⟨some .byte,1,0⟩),
 (6,⟨some .byte,1,0⟩),
 (7,⟨some (.pair (.int .i64) (.pair (.int .i64) (.pair .bool (.pair .byte .unit)))),24,0⟩),
 (8,⟨some (.pair (.int .i64) (.pair (.int .i64) (.pair .bool (.pair .byte .unit)))),24,0⟩),
 (9,⟨some .str,16,0⟩),
 (10,⟨some .str,16,0⟩),
 (11,⟨some .str,16,0⟩),
 (12,⟨some (.int .u64),8,0⟩),
 (13,⟨some (.pair .str (.pair (.int .u64) .unit)),24,0⟩),
 (14,⟨some (.pair .str (.pair (.int .u64) .unit)),24,0⟩),
 (21,⟨some (.int .i32),4,0⟩),
 (22,⟨some (.sl .byte),24,5⟩),
 (24,⟨some (.pair (.sl .byte) (.pair (.int .i64) (.pair (.sl .byte) .unit))),56,0⟩),
 (25,⟨some (.pair (.sl .byte) (.pair (.int .i64) (.pair (.sl .byte) .unit))),56,0⟩),
 (26,⟨some (.int .i64),8,0⟩),
 (29,⟨some (.pair (.sl .byte) (.pair (.int .i64) (.pair (.sl .byte) .unit))),56,0⟩),
 (40,⟨some (.sl (.int .i32)),24,21⟩),
 (46,⟨some (.arr 3 (.int .i64)),24,3⟩),
 (47,⟨some (.sl (.sl (.int .i32))),24,40⟩),
 (57,⟨some (.sl (.sl .byte)),24,22⟩),
 (106,⟨some (.sl .str),24,9⟩),
 (109,⟨some (.sl (.int .i64)),24,3⟩),
 (133,⟨some (.int .u64),8,0⟩),
 (156,⟨some (.int .u32),4,0⟩),
 (159,⟨some (.int .u64),8,0⟩),
 (162,⟨some (.pair .byte (.pair (.int .i32) .unit)),8,0⟩),
 (163,⟨some (.pair .byte (.pair (.int .i32) .unit)),8,0⟩),
 (164,⟨some (.arr 8 (.pair .byte (.pair (.int .i32) .unit))),64,163⟩),
 (177,⟨some .unit,0,0⟩),
 (178,⟨some .unit,0,0⟩),
 (179,⟨some .unit,0,0⟩),
 (187,⟨some (.arr 32 (.int .i32)),128,21⟩),
 (190,⟨some (.arr 256 .bool),256,4⟩),
 (191,⟨some (.arr 256 .bool),256,4⟩),
 (196,⟨some (.arr 32 .byte),32,5⟩),
 (197,⟨some (.arr 64 .byte),64,5⟩),
 (199,⟨some (.arr 256 .byte),256,5⟩),
 (200,⟨some (.pair .byte (.pair .byte .unit)),2,0⟩),
 (201,⟨some (.pair .byte (.pair .byte .unit)),2,0⟩),
 (202,⟨some (.arr 16 (.pair .byte (.pair .byte .unit))),32,201⟩),
 (213,⟨some .byte,1,0⟩),
 (214,⟨some .byte,1,0⟩),
 (217,⟨some (.int .i32),4,0⟩),
 (218,⟨some (.int .i32),4,0⟩)]
theorem qeN:(tis.all fun p=>tyB Tryz.prog (tiOf tis) p.1)=true:=by kernel_rfl
theorem follows:Tryz.prog.follows .mixedOrders=true:=by kernel_rfl
abbrev FnL:=List (FuncId×(List AV→Bool×AV))
abbrev CutL:=Nat→Option (List Nat)
noncomputable def eQ (l:FnL) (nt:Nat) (r:Option (List Nat)) (a b:CutL) (p:Nat→Option PSh):EnvP:=⟨⟨tiOf tis,fnsOf l,cnsOf [],[],nt,a,b,r⟩,p,fun _=>none,fun _=>[],fun _=>none,fun _=>none,fun _=>none,fun _=>none⟩
noncomputable def cO (f:Func):Code:=f.body.getD .skip
def nC:CutL:=fun _=>none
def nP:Nat→Option PSh:=fun _=>none
theorem sQ {E:EnvP} {l:FnL} {nt:Nat} {r:Option (List Nat)} {a b:CutL} {p:Nat→Option PSh} {f:FuncId} {fn:Func} {c:Code} {spec:List AV→Bool×AV} (hE:E=eQ l nt r a b p) (hl:∀ w S,G w S→∀ f,qbk Tryz.prog f (fnsOf l f) w S)
 (hf:Tryz.prog.funcs[f]?=some fn) (hb:fn.body=some c) (hnt:fn.ntmps=nt) (hname:(fn.name == "runtime.NumGoroutine")=false) (hspec:∀ avs r',spec avs=(true,r')→∃ n v,evFnP E n c fn.results avs=some v∧(v=r'∨v.strip=r')):qh G Tryz.prog f spec:=by
 subst hE
 exact qW G_stays (E:=eQ l nt r a b p) (qr rfl qeN) (fun w S hg=>⟨⟨hl w S hg,fun f sp h=>qbM f sp h w S⟩,qbY w S hg,(fun _ _ h=>by cases h),(fun f sp h=>qcv f sp h),(fun f it h=>qcx f it h),(fun t kt vt h=>qcw t kt vt h)⟩) follows hf hb hnt hname hspec
def s_z123:List AV→Bool×AV
 | [.dat (.sl .byte) a0 _,.dat (.int .i64) a1 _]=>(qxL a0 a1,(.dat (.sl (.sl .byte)) (z123 a0 a1) none))
 | _=>(false,.bad)
def s_z151:List AV→Bool×AV
 | [.dat (.sl .byte) a0 _,.dat .byte a1 _]=>(true,(.dat (.int .i64) (z151 a0 a1) none))
 | _=>(false,.bad)
def s_z109:List AV→Bool×AV
 | [.dat (.sl .byte) a0 _,.dat .byte a1 _]=>(true,(.dat (.int .i64) (z109 a0 a1) none))
 | _=>(false,.bad)
def s_z175:List AV→Bool×AV
 | [.dat (.sl .byte) a0 _,.dat (.sl .byte) a1 _]=>(true,(.dat .bool (z175 a0 a1) none))
 | _=>(false,.bad)
def s_z125:List AV→Bool×AV
 | [.dat (.sl .byte) a0 _,.dat (.sl .byte) a1 _]=>(qhb a0 a1,(.dat (.int .i64) (z125 a0 a1) none))
 | _=>(false,.bad)
def s_z173:List AV→Bool×AV
 | [.dat (.sl .byte) a0 _]=>(qxK a0,(.dat (.int .i64) (z173 a0) none))
 | _=>(false,.bad)
def s_z174:List AV→Bool×AV
 | [.dat (.sl .byte) a0 _,.dat .byte a1 _]=>(true,(.dat (.int .i64) (z174 a0 a1) none))
 | _=>(false,.bad)
def s_z124:List AV→Bool×AV
 | [.dat (.sl .byte) a0 _,.dat (.sl .byte) a1 _]=>(qha a0 a1,(.dat (.int .i64) (z124 a0 a1) none))
 | _=>(false,.bad)
def s_z78:List AV→Bool×AV
 | [.dat (.sl .byte) a0 _,.dat (.sl .byte) a1 _,.dat (.int .i64) a2 _,.dat (.int .i64) a3 _]=>(qog a0 a1 a2 a3,(.dat (.sl (.sl .byte)) (z78 a0 a1 a2 a3) none))
 | _=>(false,.bad)
def s_z37:List AV→Bool×AV
 | [.dat (.sl .byte) a0 _,.dat (.sl .byte) a1 _]=>(qto a0 a1,(.dat (.sl (.sl .byte)) (z37 a0 a1) none))
 | _=>(false,.bad)
def s_z38:List AV→Bool×AV
 | [.dat (.sl .byte) a0 _]=>(qcY a0,(.dat (.sl .byte) (z38 a0) (some (0,5))))
 | _=>(false,.bad)
def s_z126:List AV→Bool×AV
 | [.dat .byte a0 _]=>(true,(.dat .byte (z126 a0) none))
 | _=>(false,.bad)
def s_z79:List AV→Bool×AV
 | [.dat (.sl .byte) a0 _]=>(qoi a0,(.dat (.sl .byte) (z79 a0) (some (2,5))))
 | _=>(false,.bad)
def s_z39:List AV→Bool×AV
 | [.dat (.sl .byte) a0 _]=>(qoh a0,(.dat (.int .i64) (z39 a0) none))
 | _=>(false,.bad)
def s_z214:List AV→Bool×AV
 | [.dat .byte a0 _]=>(true,(.dat (.int .i64) (z214 a0) none))
 | _=>(false,.bad)
def s_z241:List AV→Bool×AV
 | [.dat .str a0 _,.dat .byte a1 _]=>(true,(.dat (.int .i64) (z241 a0 a1) none))
 | _=>(false,.bad)
def s_z229:List AV→Bool×AV
 | [.dat .str a0 _,.dat .byte a1 _]=>(true,(.dat (.int .i64) (z229 a0 a1) none))
 | _=>(false,.bad)
def s_z192:List AV→Bool×AV
 | [.dat .str a0 _,.dat .byte a1 _]=>(true,(.dat (.int .i64) (z192 a0 a1) none))
 | _=>(false,.bad)
def s_z215:List AV→Bool×AV
 | [.dat .str a0 _,.dat .byte a1 _]=>(true,(.dat .bool (z215 a0 a1) none))
 | _=>(false,.bad)
def s_z180:List AV→Bool×AV
 | [.dat .byte a0 _]=>(true,(.dat (.int .i64) (z180 a0) none))
 | _=>(false,.bad)
def s_z129:List AV→Bool×AV
 | [.dat .byte a0 _,.dat (.int .i64) a1 _]=>(true,(.dat .bool (z129 a0 a1) none))
 | _=>(false,.bad)
def s_z127:List AV→Bool×AV
 | [.dat (.sl .byte) a0 _,.dat (.int .i64) a1 _]=>(qmX a0 a1,(.dat (.int .i64) (z127 a0 a1) none))
 | _=>(false,.bad)
def s_z80:List AV→Bool×AV
 | [.dat (.sl .byte) a0 _,.dat (.int .i64) a1 _]=>(qoj a0 a1,(.dat .bool (z80 a0 a1) none))
 | _=>(false,.bad)
def s_z40:List AV→Bool×AV
 | [.dat (.sl .byte) a0 _,.dat (.int .i64) a1 _]=>(qdI a0 a1,(.dat .bool (z40 a0 a1) none))
 | _=>(false,.bad)
def s_z11:List AV→Bool×AV
 | [.dat (.sl .byte) a0 _]=>(qgz a0,(.tup [(.dat (.pair (.sl .byte) (.pair (.int .i64) (.pair (.sl .byte) .unit))) ((z11 a0).1) none),(.dat (.int .i64) ((z11 a0).2) none)]))
 | _=>(false,.bad)
def s_z14:List AV→Bool×AV
 | [.dat (.sl .byte) a0 _]=>(qtp a0,(.dat .bool (z14 a0) none))
 | _=>(false,.bad)
def s_z44:List AV→Bool×AV
 | [.dat (.int .i64) a0 _]=>(true,(.dat .bool (z44 a0) none))
 | _=>(false,.bad)
def s_z45:List AV→Bool×AV
 | [.dat (.int .i64) a0 _]=>(true,(.dat .str (z45 a0) none))
 | _=>(false,.bad)
def s_z84:List AV→Bool×AV
 | [.dat .byte a0 _]=>(true,(.dat (.int .i64) (z84 a0) none))
 | _=>(false,.bad)
def s_z83:List AV→Bool×AV
 | [.dat (.sl .byte) a0 _]=>(qnP a0,(.dat (.int .i64) (z83 a0) none))
 | _=>(false,.bad)
def s_z181:List AV→Bool×AV
 | [.dat (.int .i64) a0 _]=>(qcD a0,(.dat .byte (z181 a0) none))
 | _=>(false,.bad)
def s_z130:List AV→Bool×AV
 | [.dat .byte a0 _]=>(true,(.dat (.sl .byte) (z130 a0) (some (2,5))))
 | _=>(false,.bad)
def s_z85:List AV→Bool×AV
 | [.dat (.sl .byte) a0 _,.dat .byte a1 _,.dat .byte a2 _]=>(qvf a0 a1 a2,(.dat (.sl .byte) (z85 a0 a1 a2) (some (6,5))))
 | _=>(false,.bad)
def s_z46:List AV→Bool×AV
 | [.dat (.sl .byte) a0 _]=>(qvr a0,(.dat (.sl .byte) (z46 a0) (some (2,5))))
 | _=>(false,.bad)
def s_z132:List AV→Bool×AV
 | [.dat (.int .i64) a0 _]=>(true,(.dat .byte (z132 a0) none))
 | _=>(false,.bad)
def s_z88:List AV→Bool×AV
 | [.dat (.sl .byte) a0 _]=>(qDC a0,(.dat (.sl .byte) (z88 a0) (some (2,5))))
 | _=>(false,.bad)
def s_z47:List AV→Bool×AV
 | [.dat (.sl .byte) a0 _]=>(qyJ a0,(.dat (.sl .byte) (z47 a0) none))
 | _=>(false,.bad)
def s_z133:List AV→Bool×AV
 | [.dat (.int .i64) a0 _]=>(true,(.dat (.sl .str) (z133 a0) (some (2,9))))
 | _=>(false,.bad)
def s_z89:List AV→Bool×AV
 | [.dat (.int .i64) a0 _]=>(true,(.dat .str (z89 a0) none))
 | _=>(false,.bad)
def s_z48:List AV→Bool×AV
 | [.dat (.int .i64) a0 _,.dat (.int .i64) a1 _]=>(true,(.dat .str (z48 a0 a1) none))
 | _=>(false,.bad)
def s_z15:List AV→Bool×AV
 | [.dat (.int .i64) a0 _,.dat (.int .i64) a1 _,.dat (.sl .byte) a2 _]=>(qru a0 a1 a2,(.tup [(.dat (.sl .byte) ((z15 a0 a1 a2).1) none),(.dat (.int .i64) ((z15 a0 a1 a2).2) none)]))
 | _=>(false,.bad)
def s_z17:List AV→Bool×AV
 | [.dat (.int .i64) a0 _]=>(true,(.dat (.int .i64) (z17 a0) none))
 | _=>(false,.bad)
def s_z97:List AV→Bool×AV
 | [.dat (.sl .byte) a0 _]=>(qnQ a0,(.dat (.sl (.int .i32)) (z97 a0) (some (2,21))))
 | _=>(false,.bad)
def s_z138:List AV→Bool×AV
 | [.dat (.int .i32) a0 _]=>(true,(.dat (.int .i32) (z138 a0) none))
 | _=>(false,.bad)
def s_z93:List AV→Bool×AV
 | [.dat (.sl .byte) a0 _]=>(qvj a0,(.dat (.sl (.int .i32)) (z93 a0) (some (2,21))))
 | _=>(false,.bad)
def s_z185:List AV→Bool×AV
 | []=>(true,(.dat (.arr 8 (.pair .byte (.pair (.int .i32) .unit))) z185 none))
 | _=>(false,.bad)
def s_z139:List AV→Bool×AV
 | [.dat .byte a0 _]=>(true,(.dat (.int .i32) (z139 a0) none))
 | _=>(false,.bad)
def s_z94:List AV→Bool×AV
 | [.dat (.sl .byte) a0 _]=>(qvh a0,(.dat (.sl (.int .i32)) (z94 a0) (some (2,21))))
 | _=>(false,.bad)
def s_z186:List AV→Bool×AV
 | []=>(true,(.dat (.sl (.int .i32)) z186 none))
 | _=>(false,.bad)
def s_z140:List AV→Bool×AV
 | [.dat .byte a0 _]=>(true,(.dat (.int .i32) (z140 a0) none))
 | _=>(false,.bad)
def s_z95:List AV→Bool×AV
 | [.dat (.sl .byte) a0 _]=>(qvi a0,(.dat (.sl (.int .i32)) (z95 a0) (some (2,21))))
 | _=>(false,.bad)
def s_z142:List AV→Bool×AV
 | [.dat (.int .i32) a0 _,.dat (.int .i64) a1 _,.pbox (.osl 21 (.int .i32)) a2 none]=>((qmo a0 a1 a2),.tup [(.tup []),.bad,.bad,(.pbox (.osl 21 (.int .i32)) (z142 a0 a1 a2) none)])
 | _=>(false,.bad)
def s_z217:List AV→Bool×AV
 | [.dat .byte a0 _]=>(true,(.dat (.int .i64) (z217 a0) none))
 | _=>(false,.bad)
def s_z235:List AV→Bool×AV
 | [.dat .byte a0 _]=>(true,(.dat .bool (z235 a0) none))
 | _=>(false,.bad)
def s_z236:List AV→Bool×AV
 | [.dat .byte a0 _,.dat .byte a1 _]=>(true,(.dat .bool (z236 a0 a1) none))
 | _=>(false,.bad)
def s_z216:List AV→Bool×AV
 | [.dat (.sl .byte) a0 _]=>(qgK a0,(.dat (.int .i64) (z216 a0) none))
 | _=>(false,.bad)
def s_z218:List AV→Bool×AV
 | [.dat (.int .i64) a0 _]=>(true,(.dat .byte (z218 a0) none))
 | _=>(false,.bad)
def s_z187:List AV→Bool×AV
 | [.dat (.sl .byte) a0 _]=>(qmf a0,(.tup [(.dat (.int .i32) ((z187 a0).1) none),(.dat (.int .i64) ((z187 a0).2.1) none),(.dat (.int .i64) ((z187 a0).2.2) none)]))
 | _=>(false,.bad)
def s_z141:List AV→Bool×AV
 | [.dat (.sl .byte) a0 _,.fn 142 [.pbox (.osl 21 (.int .i32)) a1 none]]=>((qbp a0 a1),.tup [(.tup []),.bad,(.pbox (.osl 21 (.int .i32)) (qrv a0 a1) none)])
 | _=>(false,.bad)
def s_z96:List AV→Bool×AV
 | [.dat (.sl .byte) a0 _]=>(qvg a0,(.dat (.sl (.int .i32)) (z96 a0) none))
 | _=>(false,.bad)
def s_z52:List AV→Bool×AV
 | [.dat (.int .i64) a0 _,.dat (.sl .byte) a1 _]=>(qnR a0 a1,(.dat (.sl (.int .i32)) (z52 a0 a1) none))
 | _=>(false,.bad)
def s_z106:List AV→Bool×AV
 | []=>(true,(.abs (.sl (.pair .str (.int .i64))) (qah .str (.int .i64)) z106))
 | _=>(false,.bad)
def s_z221:List AV→Bool×AV
 | [.dat (.sl .byte) a0 _,.dat .byte a1 _]=>(qtq a0 a1,(.dat (.sl .byte) (z221 a0 a1) none))
 | _=>(false,.bad)
def s_z222:List AV→Bool×AV
 | [.dat (.sl .byte) a0 _,.dat .byte a1 _]=>(qtr a0 a1,(.dat (.sl .byte) (z222 a0 a1) none))
 | _=>(false,.bad)
def s_z223:List AV→Bool×AV
 | [.dat .str a0 _]=>(qgs a0,(.tup [(.dat (.arr 256 .bool) ((z223 a0).1) none),(.dat .bool ((z223 a0).2) none)]))
 | _=>(false,.bad)
def s_z238:List AV→Bool×AV
 | [.adr (.arr 256 .bool) a0,.dat .byte a1 _]=>(true,(.dat .bool (z238 a0 a1) none))
 | _=>(false,.bad)
def s_z224:List AV→Bool×AV
 | [.dat (.sl .byte) a0 _,.adr (.arr 256 .bool) a1]=>(qjI a0 a1,(.dat (.sl .byte) (z224 a0 a1) none))
 | _=>(false,.bad)
def s_z225:List AV→Bool×AV
 | [.dat (.sl .byte) a0 _,.adr (.arr 256 .bool) a1]=>(qjJ a0 a1,(.dat (.sl .byte) (z225 a0 a1) none))
 | _=>(false,.bad)
def s_z226:List AV→Bool×AV
 | [.dat (.sl .byte) a0 _,.dat .str a1 _]=>(qts a0 a1,(.dat (.sl .byte) (z226 a0 a1) none))
 | _=>(false,.bad)
def s_z227:List AV→Bool×AV
 | [.dat (.sl .byte) a0 _,.dat .str a1 _]=>(qtt a0 a1,(.dat (.sl .byte) (z227 a0 a1) none))
 | _=>(false,.bad)
def s_z190:List AV→Bool×AV
 | [.dat (.sl .byte) a0 _,.dat .str a1 _]=>(qhc a0 a1,(.dat (.sl .byte) (z190 a0 a1) none))
 | _=>(false,.bad)
def s_z148:List AV→Bool×AV
 | [.dat (.sl .byte) a0 _]=>(qhd a0,(.dat (.sl .byte) (z148 a0) (some (2,5))))
 | _=>(false,.bad)
def s_z107:List AV→Bool×AV
 | [.dat (.sl .byte) a0 _]=>(qmi a0,(.dat (.sl .byte) (z107 a0) (some (2,5))))
 | _=>(false,.bad)
def s_z58:List AV→Bool×AV
 | [.dat (.sl .byte) a0 _]=>(qnS a0,(.tup [(.dat (.int .i64) ((z58 a0).1) none),(.dat (.int .i64) ((z58 a0).2) none)]))
 | _=>(false,.bad)
def s_z53:List AV→Bool×AV
 | [.dat (.pair (.sl .byte) (.pair (.int .i64) (.pair (.sl .byte) .unit))) a0 _]=>(qji a0,(.dat (.int .i64) (z53 a0) none))
 | _=>(false,.bad)
def s_z150:List AV→Bool×AV
 | [.dat .byte a0 _]=>(true,(.tup [(.dat (.int .i64) ((z150 a0).1) none),(.dat .bool ((z150 a0).2) none)]))
 | _=>(false,.bad)
def s_z219:List AV→Bool×AV
 | [.abs s V x,.pbox (.leaf (.sl .byte)) b0 none]=>((z219 (fun x a0 a1=>V.spec x [⟨.byte,a0⟩,⟨(.int .i64),a1⟩]) x b0).1,.tup [.tup [],.abs s V (z219 (fun x a0 a1=>V.spec x [⟨.byte,a0⟩,⟨(.int .i64),a1⟩]) x b0).2.1,.pbox (.leaf (.sl .byte)) ((z219 (fun x a0 a1=>V.spec x [⟨.byte,a0⟩,⟨(.int .i64),a1⟩]) x b0).2.2) none])
 | _=>(false,.bad)
def qxf:Iter:=⟨[.leaf (.sl .byte)],fun s spec x y=>((z219 (fun x a0 a1=>spec x [⟨.byte,a0⟩,⟨(.int .i64),a1⟩]) x y.1).1,(z219 (fun x a0 a1=>spec x [⟨.byte,a0⟩,⟨(.int .i64),a1⟩]) x y.1).2.1)⟩
def s_z188:List AV→Bool×AV
 | [.dat (.sl .byte) a0 _]=>(true,(.abs (qcP [.leaf (.sl .byte)]) (clInv 219 [.leaf (.sl .byte)]) (a0,())))
 | _=>(false,.bad)
def s_z143:List AV→Bool×AV
 | [.dat (.sl .byte) a0 _]=>(qml a0,(.tup [(.dat (.sl .byte) ((z143 a0).1) none),(.dat (.int .i64) ((z143 a0).2) none)]))
 | _=>(false,.bad)
def s_z98:List AV→Bool×AV
 | [.dat (.sl .byte) a0 _]=>(qvo a0,(.dat (.sl .byte) (z98 a0) none))
 | _=>(false,.bad)
def s_z237:List AV→Bool×AV
 | [.dat .byte a0 _]=>(true,(.tup [(.dat (.int .i64) ((z237 a0).1) none),(.dat .bool ((z237 a0).2) none)]))
 | _=>(false,.bad)
def s_z220:List AV→Bool×AV
 | [.dat .byte a0 _,.dat .byte a1 _]=>(true,(.tup [(.dat .byte ((z220 a0 a1).1) none),(.dat .bool ((z220 a0 a1).2) none)]))
 | _=>(false,.bad)
def s_z189:List AV→Bool×AV
 | [.dat (.sl .byte) a0 _,.dat (.int .i64) a1 _,.dat .byte a2 _]=>(qme a0 a1 a2,(.tup [(.dat .byte ((z189 a0 a1 a2).1) none),(.dat .bool ((z189 a0 a1 a2).2) none)]))
 | _=>(false,.bad)
def s_z144:List AV→Bool×AV
 | [.dat (.sl .byte) a0 _]=>(qgL a0,(.tup [(.dat (.sl .byte) ((z144 a0).1) none),(.dat (.int .i64) ((z144 a0).2) none)]))
 | _=>(false,.bad)
def s_z99:List AV→Bool×AV
 | [.dat (.sl .byte) a0 _]=>(qvp a0,(.dat (.sl .byte) (z99 a0) none))
 | _=>(false,.bad)
def s_z54:List AV→Bool×AV
 | [.dat (.pair (.sl .byte) (.pair (.int .i64) (.pair (.sl .byte) .unit))) a0 _]=>(qnT a0,(.dat (.sl .byte) (z54 a0) none))
 | _=>(false,.bad)
def s_z19:List AV→Bool×AV
 | [.dat (.sl .byte) a0 _]=>(qrt a0,(.tup [(.dat (.sl (.int .i32)) ((z19 a0).1) none),(.dat .bool ((z19 a0).2) none)]))
 | _=>(false,.bad)
def s_z10:List AV→Bool×AV
 | []=>(true,(.dat .bool z10 none))
 | _=>(false,.bad)
def s_z21:List AV→Bool×AV
 | [.dat (.sl (.int .i32)) a0 _,.dat (.sl (.int .i32)) a1 _]=>(qvu a0 a1,(.dat .bool (z21 a0 a1) none))
 | _=>(false,.bad)
def s_z22:List AV→Bool×AV
 | [.dat (.sl .byte) a0 _]=>(qvt a0,(.dat (.int .i64) (z22 a0) none))
 | _=>(false,.bad)
def s_z228:List AV→Bool×AV
 | [.dat (.sl .byte) a0 _,.dat (.sl .byte) a1 _]=>(qmn a0 a1,(.dat .bool (z228 a0 a1) none))
 | _=>(false,.bad)
def s_z191:List AV→Bool×AV
 | [.dat (.sl .byte) a0 _,.dat (.sl .byte) a1 _]=>(qfU a0 a1,(.dat (.sl .byte) (z191 a0 a1) none))
 | _=>(false,.bad)
def s_z149:List AV→Bool×AV
 | [.dat (.sl .byte) a0 _]=>(qmj a0,(.dat (.sl .byte) (z149 a0) none))
 | _=>(false,.bad)
def s_z108:List AV→Bool×AV
 | [.dat (.sl .byte) a0 _]=>(qmk a0,(.tup [(.dat (.sl .byte) ((z108 a0).1) none),(.dat (.int .i64) ((z108 a0).2) none)]))
 | _=>(false,.bad)
def s_z59:List AV→Bool×AV
 | [.dat (.sl .byte) a0 _]=>(qvn a0,(.dat .bool (z59 a0) none))
 | _=>(false,.bad)
def s_z110:List AV→Bool×AV
 | [.dat (.sl .byte) a0 _]=>(qmm a0,(.dat (.int .i64) (z110 a0) none))
 | _=>(false,.bad)
def s_z60:List AV→Bool×AV
 | [.dat (.sl .byte) a0 _]=>(qvq a0,(.dat (.int .i64) (z60 a0) none))
 | _=>(false,.bad)
def s_z24:List AV→Bool×AV
 | [.dat (.sl .byte) a0 _]=>(qvs a0,(.dat .bool (z24 a0) none))
 | _=>(false,.bad)
def s_z153:List AV→Bool×AV
 | [.dat .byte a0 _]=>(true,(.dat (.int .i64) (z153 a0) none))
 | _=>(false,.bad)
def s_z193:List AV→Bool×AV
 | [.dat .byte a0 _]=>(true,(.tup [(.dat .byte ((z193 a0).1) none),(.dat .byte ((z193 a0).2) none)]))
 | _=>(false,.bad)
def s_z152:List AV→Bool×AV
 | [.dat (.sl .byte) a0 _]=>(qmg a0,(.dat (.int .i64) (z152 a0) none))
 | _=>(false,.bad)
def s_z111:List AV→Bool×AV
 | [.dat (.sl .byte) a0 _]=>(qmh a0,(.tup [(.dat (.int .i32) ((z111 a0).1) none),(.dat (.int .i64) ((z111 a0).2.1) none),(.dat (.int .i64) ((z111 a0).2.2) none)]))
 | _=>(false,.bad)
def s_z63:List AV→Bool×AV
 | [.dat (.sl .byte) a0 _]=>(qvk a0,(.tup [(.dat (.sl (.int .i32)) ((z63 a0).1) none),(.dat (.int .i64) ((z63 a0).2.1) none),(.dat (.int .i64) ((z63 a0).2.2) none)]))
 | _=>(false,.bad)
def s_z64:List AV→Bool×AV
 | [.dat .byte a0 _]=>(true,(.dat (.int .i32) (z64 a0) none))
 | _=>(false,.bad)
def s_z65:List AV→Bool×AV
 | [.dat .byte a0 _]=>(true,(.dat (.int .i32) (z65 a0) none))
 | _=>(false,.bad)
def s_z26:List AV→Bool×AV
 | [.dat (.int .i64) a0 _,.dat (.sl .byte) a1 _]=>(qvl a0 a1,(.dat (.sl (.int .i32)) (z26 a0 a1) none))
 | _=>(false,.bad)
def s_z6:List AV→Bool×AV
 | [.dat (.int .i64) a0 _,.dat (.int .i64) a1 _,.dat (.sl .byte) a2 _]=>(true,(.dat .bool (z6 a0 a1 a2) none))
 | _=>(false,.bad)
theorem qpE:qh G Tryz.prog 241 s_z241:=fun w S hg vals avs r h hS ha=>by
 unfold s_z241 at h
 split at h
 ·simp only [Prod.mk.injEq,true_and] at h
  subst h
  exact qnU Tryz.func241 (by kernel_rfl) (by kernel_rfl) (by kernel_rfl) (by kernel_rfl) hS ha
 ·cases h
theorem qpF:qh G Tryz.prog 151 s_z151:=fun w S hg vals avs r h hS ha=>by
 unfold s_z151 at h
 split at h
 ·simp only [Prod.mk.injEq,true_and] at h
  subst h
  exact qnX hS ha
 ·cases h
theorem qiU:qh G Tryz.prog 125 s_z125:=fun w S hg vals avs r h hS ha=>by
 unfold s_z125 at h
 split at h
 ·simp only [Prod.mk.injEq] at h
  obtain ⟨hp,rfl⟩:=h
  unfold qhb at hp
  simp only [Bool.and_eq_true,decide_eq_true_eq] at hp
  obtain ⟨m,hm⟩:=hg
  have hc:w.cell? ⟨0,0,none⟩=some (.int .i64 m):=by
   cases hm 0 (.int .i64) m rfl with
   | adr _ _ ad cs h1 h2 =>
    have e:cs=[.int .i64 m]:=h1
    subst e
    exact ((h2.2 (by simp)).2 0 _ rfl).2
  exact qnV hc hS ha (qm hp.1) (qm hp.2.1) hp.2.2
 ·cases h
theorem qfb:qh G Tryz.prog 38 s_z38:=fun w S hg vals avs r h hS ha=>by
 unfold s_z38 at h
 split at h
 ·simp only [Prod.mk.injEq] at h
  obtain ⟨hp,rfl⟩:=h
  exact qrw hS ha (qm hp)
 ·cases h
theorem qpG:qh G Tryz.prog 174 s_z174:=fun w S hg vals avs r h hS ha=>by
 unfold s_z174 at h
 split at h
 ·simp only [Prod.mk.injEq,true_and] at h
  subst h
  exact qnW hS ha
 ·cases h
theorem qpH:qh G Tryz.prog 173 s_z173:=fun w S hg vals avs r h hS ha=>by
 unfold s_z173 at h
 split at h
 ·simp only [Prod.mk.injEq] at h
  cases h.1
 ·cases h
theorem qpI:qh G Tryz.prog 123 s_z123:=fun w S hg vals avs r h hS ha=>by
 unfold s_z123 at h
 split at h
 ·simp only [Prod.mk.injEq] at h
  cases h.1
 ·cases h
theorem qpJ:qh G Tryz.prog 226 s_z226:=fun w S hg vals avs r h hS ha=>by
 unfold s_z226 at h
 split at h
 ·simp only [Prod.mk.injEq] at h
  cases h.1
 ·cases h
theorem qpK:qh G Tryz.prog 227 s_z227:=fun w S hg vals avs r h hS ha=>by
 unfold s_z227 at h
 split at h
 ·simp only [Prod.mk.injEq] at h
  cases h.1
 ·cases h
noncomputable def qBe:EnvP:=eQ [(151,s_z151)] 8 (some [4]) nC nC nP
noncomputable def qBf:Code:=cO Tryz.f109
noncomputable def qEl:Array ResultVar:=Tryz.f109.results
theorem qBg (n:Nat) (b0:List UInt8) (o0:Lab) (c1:UInt8) (o1:Lab):evFnP qBe n qBf qEl [.dat (.sl .byte) b0 o0,.dat .byte c1 o1]=qxm n b0 c1:=by
 kernel_rfl
theorem qiV:qh G Tryz.prog 109 s_z109:=by
 refine sQ (E:=qBe) (c:=qBf) rfl (fun w S hg=>(qb (qpF w S hg) qd)) Tryz.func109 (by kernel_rfl) (by kernel_rfl) (by kernel_rfl) ?_
 intro avs r h
 unfold s_z109 at h
 split at h
 ·simp only [Prod.mk.injEq,true_and] at h
  subst h
  obtain ⟨n,hn⟩:=qvv _ _
  exact ⟨n,_,(qBg n _ _ _ _).trans hn,.inl rfl⟩
 ·cases h
noncomputable def qBh:EnvP:=eQ [] 10 (some [4]) nC nC nP
noncomputable def qBi:Code:=cO Tryz.f175
noncomputable def qEm:Array ResultVar:=Tryz.f175.results
theorem qBj (n:Nat) (a0:List UInt8) (o0:Lab) (b1:List UInt8) (o1:Lab):evFnP qBh n qBi qEm [.dat (.sl .byte) a0 o0,.dat (.sl .byte) b1 o1]=qxn n a0 b1:=by
 kernel_rfl
theorem qpL:qh G Tryz.prog 175 s_z175:=by
 refine sQ (E:=qBh) (c:=qBi) rfl (fun w S hg=>qd) Tryz.func175 (by kernel_rfl) (by kernel_rfl) (by kernel_rfl) ?_
 intro avs r h
 unfold s_z175 at h
 split at h
 ·simp only [Prod.mk.injEq,true_and] at h
  subst h
  obtain ⟨n,hn⟩:=qwG _ _
  exact ⟨n,_,(qBj n _ _ _ _).trans hn,.inl rfl⟩
 ·cases h
noncomputable def qhK:EnvP:=eQ [(125,s_z125),(173,s_z173),(174,s_z174)] 35 (some [4]) (fun x=>if x=6 then some [0,1,5] else none) (fun x=>if x=0 then some [4] else if x=1 then some [0,1,5] else none) nP
noncomputable def qpM:Code:=cO Tryz.f124
noncomputable def qyE:Array ResultVar:=Tryz.f124.results
theorem qpN (K:Ex→Fr→Option AV):∀ (n:Nat) (s0:List UInt8) (sep1:List UInt8) (n5:Int),evLP qhK n (sub qpM [1,1,1,1,0,0]) K (frOf [(0,(.dat (.sl .byte) s0 none)),(1,(.dat (.sl .byte) sep1 none)),(5,(.dat (.int .i64) n5 none))])=qgO (fun s4=>K .ret (frOf [(4,(.dat (.int .i64) s4 none))])) n s0 sep1 n5:=by
 intro n
 induction n with
 | zero=>intros; rfl
 | succ n IH =>
 intro s0 sep1 n5
 have ih:(fun s0 sep1 n5=>evLP qhK n (sub qpM [1,1,1,1,0,0]) K (frOf [(0,(.dat (.sl .byte) s0 none)),(1,(.dat (.sl .byte) sep1 none)),(5,(.dat (.int .i64) n5 none))]))=qgO (fun s4=>K .ret (frOf [(4,(.dat (.int .i64) s4 none))])) n:=by
  funext s0 sep1 n5
  exact IH s0 sep1 n5
 show _=qmx (fun s4=>K .ret (frOf [(4,(.dat (.int .i64) s4 none))])) (qgO (fun s4=>K .ret (frOf [(4,(.dat (.int .i64) s4 none))])) n) n s0 sep1 n5
 rw [← ih]
 kernel_rfl
theorem qBk (n:Nat) (s0:List UInt8) (o0:Lab) (sep1:List UInt8) (o1:Lab):evFnP qhK n qpM qyE [.dat (.sl .byte) s0 o0,.dat (.sl .byte) sep1 o1]=qrU n s0 sep1:=by
 unfold qrU
 rw [show qgO qfZ n=(fun s0 sep1 n5=>evLP qhK n (sub qpM [1,1,1,1,0,0]) (qc 0 (qhK.cutb 0) (kFnP qhK qyE)) (frOf [(0,(.dat (.sl .byte) s0 none)),(1,(.dat (.sl .byte) sep1 none)),(5,(.dat (.int .i64) n5 none))])) from by
  funext s0 sep1 n5
  refine Eq.trans ?_ (qpN (qc 0 (qhK.cutb 0) (kFnP qhK qyE)) n s0 sep1 n5).symm
  all_goals kernel_rfl]
 kernel_rfl
theorem qpO:qh G Tryz.prog 124 s_z124:=by
 refine sQ (E:=qhK) (c:=qpM) rfl (fun w S hg=>(qb (qiU w S hg) (qb (qpH w S hg) (qb (qpG w S hg) qd)))) Tryz.func124 (by kernel_rfl) (by kernel_rfl) (by kernel_rfl) ?_
 intro avs r h
 unfold s_z124 at h
 split at h
 ·simp only [Prod.mk.injEq] at h
  obtain ⟨hp,rfl⟩:=h
  obtain ⟨n,hn⟩:=qwF _ _ hp
  exact ⟨n,_,(qBk n _ _ _ _).trans hn,.inl rfl⟩
 ·cases h
noncomputable def E_z78:EnvP:=eQ [(123,s_z123),(124,s_z124),(125,s_z125)] 70 (some [1000008]) (fun x=>if x=11 then some [0,1,2,3,9,10] else none) (fun x=>if x=0 then some [0,9,10] else if x=1 then some [0,1,2,3,9,10] else none) (fun x=>if x=32 then some (.psl 22 (.leaf (.sl .byte))) else none)
noncomputable def C_z78:Code:=cO Tryz.f78
noncomputable def R_z78:Array ResultVar:=Tryz.f78.results
theorem qpP (K:Ex→Fr→Option AV):∀ (n:Nat) (s0:List UInt8) (sep1:List UInt8) (sepSave2:Int) (n3:Int) (a9:List (List UInt8)) (i10:Int),evLP E_z78 n (sub C_z78 [1,1,1,1,1,1,1,1,0,0,0]) K (frOf [(0,(.dat (.sl .byte) s0 none)),(1,(.dat (.sl .byte) sep1 none)),(2,(.dat (.int .i64) sepSave2 none)),(3,(.dat (.int .i64) n3 none)),(9,(.pv (.psl 22 (.leaf (.sl .byte))) a9 none)),(10,(.dat (.int .i64) i10 none))])=qcF (fun s0 a9 i10=>K (.exit 0) (frOf [(0,(.dat (.sl .byte) s0 none)),(9,(.pv (.psl 22 (.leaf (.sl .byte))) a9 none)),(10,(.dat (.int .i64) i10 none))])) n s0 sep1 sepSave2 n3 a9 i10:=by
 intro n
 induction n with
 | zero=>intros; rfl
 | succ n IH =>
 intro s0 sep1 sepSave2 n3 a9 i10
 have ih:(fun s0 sep1 sepSave2 n3 a9 i10=>evLP E_z78 n (sub C_z78 [1,1,1,1,1,1,1,1,0,0,0]) K (frOf [(0,(.dat (.sl .byte) s0 none)),(1,(.dat (.sl .byte) sep1 none)),(2,(.dat (.int .i64) sepSave2 none)),(3,(.dat (.int .i64) n3 none)),(9,(.pv (.psl 22 (.leaf (.sl .byte))) a9 none)),(10,(.dat (.int .i64) i10 none))]))=qcF (fun s0 a9 i10=>K (.exit 0) (frOf [(0,(.dat (.sl .byte) s0 none)),(9,(.pv (.psl 22 (.leaf (.sl .byte))) a9 none)),(10,(.dat (.int .i64) i10 none))])) n:=by
  funext s0 sep1 sepSave2 n3 a9 i10
  exact IH s0 sep1 sepSave2 n3 a9 i10
 show _=qcm (fun s0 a9 i10=>K (.exit 0) (frOf [(0,(.dat (.sl .byte) s0 none)),(9,(.pv (.psl 22 (.leaf (.sl .byte))) a9 none)),(10,(.dat (.int .i64) i10 none))])) (qcF (fun s0 a9 i10=>K (.exit 0) (frOf [(0,(.dat (.sl .byte) s0 none)),(9,(.pv (.psl 22 (.leaf (.sl .byte))) a9 none)),(10,(.dat (.int .i64) i10 none))])) n) n s0 sep1 sepSave2 n3 a9 i10
 rw [← ih]
 kernel_rfl
theorem qkq (n:Nat) (s0:List UInt8) (a9:List (List UInt8)) (i10:Int):(qc 0 (E_z78.cutb 0) (kSeq (evCP E_z78 (evLP E_z78 n) (sub C_z78 [1,1,1,1,1,1,1,1,1])) (kFnP E_z78 R_z78))) (.exit 0) (frOf [(0,(.dat (.sl .byte) s0 none)),(9,(.pv (.psl 22 (.leaf (.sl .byte))) a9 none)),(10,(.dat (.int .i64) i10 none))])=qae n s0 a9 i10:=by
 kernel_rfl
theorem qEn (n:Nat) (s0:List UInt8) (o0:Lab) (sep1:List UInt8) (o1:Lab) (sepSave2:Int) (o2:Lab) (n3:Int) (o3:Lab):evFnP E_z78 n C_z78 R_z78 [.dat (.sl .byte) s0 o0,.dat (.sl .byte) sep1 o1,.dat (.int .i64) sepSave2 o2,.dat (.int .i64) n3 o3]=qwd n s0 sep1 sepSave2 n3:=by
 unfold qwd
 rw [show qcF (qae n) n=(fun s0 sep1 sepSave2 n3 a9 i10=>evLP E_z78 n (sub C_z78 [1,1,1,1,1,1,1,1,0,0,0]) (qc 0 (E_z78.cutb 0) (kSeq (evCP E_z78 (evLP E_z78 n) (sub C_z78 [1,1,1,1,1,1,1,1,1])) (kFnP E_z78 R_z78))) (frOf [(0,(.dat (.sl .byte) s0 none)),(1,(.dat (.sl .byte) sep1 none)),(2,(.dat (.int .i64) sepSave2 none)),(3,(.dat (.int .i64) n3 none)),(9,(.pv (.psl 22 (.leaf (.sl .byte))) a9 none)),(10,(.dat (.int .i64) i10 none))])) from by
  funext s0 sep1 sepSave2 n3 a9 i10
  refine Eq.trans ?_ (qpP (qc 0 (E_z78.cutb 0) (kSeq (evCP E_z78 (evLP E_z78 n) (sub C_z78 [1,1,1,1,1,1,1,1,1])) (kFnP E_z78 R_z78))) n s0 sep1 sepSave2 n3 a9 i10).symm
  rw [show (fun s0 a9 i10=>(qc 0 (E_z78.cutb 0) (kSeq (evCP E_z78 (evLP E_z78 n) (sub C_z78 [1,1,1,1,1,1,1,1,1])) (kFnP E_z78 R_z78))) (.exit 0) (frOf [(0,(.dat (.sl .byte) s0 none)),(9,(.pv (.psl 22 (.leaf (.sl .byte))) a9 none)),(10,(.dat (.int .i64) i10 none))]))=(qae n) from by
   funext s0 a9 i10
   exact qkq n s0 a9 i10]
  all_goals kernel_rfl]
 kernel_rfl
theorem quu:qh G Tryz.prog 78 s_z78:=by
 refine sQ (E:=E_z78) (c:=C_z78) rfl (fun w S hg=>(qb (qpI w S hg) (qb (qpO w S hg) (qb (qiU w S hg) qd)))) Tryz.func78 (by kernel_rfl) (by kernel_rfl) (by kernel_rfl) ?_
 intro avs r h
 unfold s_z78 at h
 split at h
 ·simp only [Prod.mk.injEq] at h
  obtain ⟨hp,rfl⟩:=h
  obtain ⟨n,hn⟩:=qzY _ _ _ _ hp
  exact ⟨n,_,(qEn n _ _ _ _ _ _ _ _).trans hn,.inl rfl⟩
 ·cases h
noncomputable def E_z37:EnvP:=eQ [(78,s_z78)] 8 (some [4]) nC nC nP
noncomputable def C_z37:Code:=cO Tryz.f37
noncomputable def R_z37:Array ResultVar:=Tryz.f37.results
theorem qEo (n:Nat) (s0:List UInt8) (o0:Lab) (sep1:List UInt8) (o1:Lab):evFnP E_z37 n C_z37 R_z37 [.dat (.sl .byte) s0 o0,.dat (.sl .byte) sep1 o1]=qzs n s0 sep1:=by
 kernel_rfl
theorem quv:qh G Tryz.prog 37 s_z37:=by
 refine sQ (E:=E_z37) (c:=C_z37) rfl (fun w S hg=>(qb (quu w S hg) qd)) Tryz.func37 (by kernel_rfl) (by kernel_rfl) (by kernel_rfl) ?_
 intro avs r h
 unfold s_z37 at h
 split at h
 ·simp only [Prod.mk.injEq] at h
  obtain ⟨hp,rfl⟩:=h
  obtain ⟨n,hn⟩:=qzZ _ _ hp
  exact ⟨n,_,(qEo n _ _ _ _).trans hn,.inl rfl⟩
 ·cases h
noncomputable def qBl:EnvP:=eQ [] 12 (some [2]) nC nC nP
noncomputable def qBm:Code:=cO Tryz.f126
noncomputable def qEp:Array ResultVar:=Tryz.f126.results
theorem qBn (n:Nat) (c0:UInt8) (o0:Lab):evFnP qBl n qBm qEp [.dat .byte c0 o0]=qrV n c0:=by
 kernel_rfl
theorem qiW:qh G Tryz.prog 126 s_z126:=by
 refine sQ (E:=qBl) (c:=qBm) rfl (fun w S hg=>qd) Tryz.func126 (by kernel_rfl) (by kernel_rfl) (by kernel_rfl) ?_
 intro avs r h
 unfold s_z126 at h
 split at h
 ·simp only [Prod.mk.injEq,true_and] at h
  subst h
  obtain ⟨n,hn⟩:=qwC _
  exact ⟨n,_,(qBn n _ _).trans hn,.inl rfl⟩
 ·cases h
noncomputable def E_z79:EnvP:=eQ [(38,s_z38),(126,s_z126)] 22 (some [2]) (fun x=>if x=3 then some [3,8,9,10] else none) (fun x=>if x=0 then some [3] else if x=1 then some [3,8,9,10] else none) (fun x=>if x=7 then some (.psl 5 (.leaf .byte)) else none)
noncomputable def C_z79:Code:=cO Tryz.f79
noncomputable def R_z79:Array ResultVar:=Tryz.f79.results
theorem quw (K:Ex→Fr→Option AV):∀ (n:Nat) (out3:List UInt8) (s9:Int) (s10:Int),evLP E_z79 n (sub C_z79 [1,1,0,1,0,0]) K (frOf [(3,(.pv (.psl 5 (.leaf .byte)) out3 none)),(8,(.pval 3 [])),(9,(.dat (.int .i64) s9 none)),(10,(.dat (.int .i64) s10 none))])=qig (fun out3=>K (.exit 0) (frOf [(3,(.pv (.psl 5 (.leaf .byte)) out3 none))])) n out3 s9 s10:=by
 intro n
 induction n with
 | zero=>intros; rfl
 | succ n IH =>
 intro out3 s9 s10
 have ih:(fun out3 s9 s10=>evLP E_z79 n (sub C_z79 [1,1,0,1,0,0]) K (frOf [(3,(.pv (.psl 5 (.leaf .byte)) out3 none)),(8,(.pval 3 [])),(9,(.dat (.int .i64) s9 none)),(10,(.dat (.int .i64) s10 none))]))=qig (fun out3=>K (.exit 0) (frOf [(3,(.pv (.psl 5 (.leaf .byte)) out3 none))])) n:=by
  funext out3 s9 s10
  exact IH out3 s9 s10
 show _=qed (fun out3=>K (.exit 0) (frOf [(3,(.pv (.psl 5 (.leaf .byte)) out3 none))])) (qig (fun out3=>K (.exit 0) (frOf [(3,(.pv (.psl 5 (.leaf .byte)) out3 none))])) n) n out3 s9 s10
 rw [← ih]
 kernel_rfl
theorem qnC (n:Nat) (out3:List UInt8):(qc 0 (E_z79.cutb 0) (kSeq (evCP E_z79 (evLP E_z79 n) (sub C_z79 [1,1,1])) (kFnP E_z79 R_z79))) (.exit 0) (frOf [(3,(.pv (.psl 5 (.leaf .byte)) out3 none))])=qga n out3:=by
 kernel_rfl
theorem qEq (n:Nat) (s0:List UInt8) (o0:Lab):evFnP E_z79 n C_z79 R_z79 [.dat (.sl .byte) s0 o0]=qwe n s0:=by
 unfold qwe
 rw [show qig (qga n) n=(fun out3 s9 s10=>evLP E_z79 n (sub C_z79 [1,1,0,1,0,0]) (qc 0 (E_z79.cutb 0) (kSeq (evCP E_z79 (evLP E_z79 n) (sub C_z79 [1,1,1])) (kFnP E_z79 R_z79))) (frOf [(3,(.pv (.psl 5 (.leaf .byte)) out3 none)),(8,(.pval 3 [])),(9,(.dat (.int .i64) s9 none)),(10,(.dat (.int .i64) s10 none))])) from by
  funext out3 s9 s10
  refine Eq.trans ?_ (quw (qc 0 (E_z79.cutb 0) (kSeq (evCP E_z79 (evLP E_z79 n) (sub C_z79 [1,1,1])) (kFnP E_z79 R_z79))) n out3 s9 s10).symm
  rw [show (fun out3=>(qc 0 (E_z79.cutb 0) (kSeq (evCP E_z79 (evLP E_z79 n) (sub C_z79 [1,1,1])) (kFnP E_z79 R_z79))) (.exit 0) (frOf [(3,(.pv (.psl 5 (.leaf .byte)) out3 none))]))=(qga n) from by
   funext out3
   exact qnC n out3]
  all_goals kernel_rfl]
 kernel_rfl
theorem qlQ:qh G Tryz.prog 79 s_z79:=by
 refine sQ (E:=E_z79) (c:=C_z79) rfl (fun w S hg=>(qb (qfb w S hg) (qb (qiW w S hg) qd))) Tryz.func79 (by kernel_rfl) (by kernel_rfl) (by kernel_rfl) ?_
 intro avs r h
 unfold s_z79 at h
 split at h
 ·simp only [Prod.mk.injEq] at h
  obtain ⟨hp,rfl⟩:=h
  obtain ⟨n,hn⟩:=qzW _ hp
  exact ⟨n,_,(qEq n _ _).trans hn,.inl rfl⟩
 ·cases h
noncomputable def E_z39:EnvP:=eQ [(79,s_z79)] 10 (some [2]) nC (fun x=>if x=0 then some [] else none) nP
noncomputable def C_z39:Code:=cO Tryz.f39
noncomputable def R_z39:Array ResultVar:=Tryz.f39.results
theorem qEr (n:Nat) (s0:List UInt8) (o0:Lab):evFnP E_z39 n C_z39 R_z39 [.dat (.sl .byte) s0 o0]=qzt n s0:=by
 kernel_rfl
theorem qux:qh G Tryz.prog 39 s_z39:=by
 refine sQ (E:=E_z39) (c:=C_z39) rfl (fun w S hg=>(qb (qlQ w S hg) qd)) Tryz.func39 (by kernel_rfl) (by kernel_rfl) (by kernel_rfl) ?_
 intro avs r h
 unfold s_z39 at h
 split at h
 ·simp only [Prod.mk.injEq] at h
  obtain ⟨hp,rfl⟩:=h
  obtain ⟨n,hn⟩:=qAa _ hp
  exact ⟨n,_,(qEr n _ _).trans hn,.inl rfl⟩
 ·cases h
noncomputable def qBo:EnvP:=eQ [] 46 (some [2]) nC (fun x=>if x=0 then some [3] else none) nP
noncomputable def qBp:Code:=cO Tryz.f214
noncomputable def qEs:Array ResultVar:=Tryz.f214.results
theorem qBq (n:Nat) (c0:UInt8) (o0:Lab):evFnP qBo n qBp qEs [.dat .byte c0 o0]=qrW n c0:=by
 kernel_rfl
theorem qpQ:qh G Tryz.prog 214 s_z214:=by
 refine sQ (E:=qBo) (c:=qBp) rfl (fun w S hg=>qd) Tryz.func214 (by kernel_rfl) (by kernel_rfl) (by kernel_rfl) ?_
 intro avs r h
 unfold s_z214 at h
 split at h
 ·simp only [Prod.mk.injEq,true_and] at h
  subst h
  obtain ⟨n,hn⟩:=qwr _
  exact ⟨n,_,(qBq n _ _).trans hn,.inl rfl⟩
 ·cases h
end Go.Av
