import Derived.Test.YtopepdfipgfakaaGreatDoorEfP12
import Derived.Test.YtopepdfipgfakaaGreatDoorEfLayX
import Derived.Test.YtopepdfipgfakaaGreatDoorProg
import Derived.KernelRfl
namespace Go.Av
set_option linter.unusedSimpArgs false
open Go.Proofs
set_option maxRecDepth 100000
set_option linter.unusedVariables false
def tis:List (TypeId×TI):=[(2,⟨some (.int .i64),8,0⟩),
 (3,⟨some (.int .i64),8,0⟩),
 (4,⟨some .bool,1,0⟩),
 (5,⟨some .byte,1,0⟩),
 (6,⟨some .byte,1,0⟩),
 (7,⟨some (.pair (.int .i64) (.pair (.int .i64) (.pair .bool (.pair .byte .unit)))),24,0⟩),
 (8,⟨some (.pair (.int .i64) (.pair (.int .i64) (.pair .bool (.pair .byte .unit)))),24,0⟩),
 (9,⟨some .str,16,0⟩),
 (10,⟨some .str,16,0⟩),
 (11,⟨some .str,16,0⟩),
 (12,⟨some (.int .u64),8,0⟩),
 (13,⟨some (.pair .str (.pair (.int .u64) .unit)),24,0⟩),
 (14,⟨some (.pair .str (.pair (.int .u64) .unit)),24,0⟩),
 (21,⟨some (.int .i32),4,0⟩),
 (22,⟨some (.sl .byte),24,5⟩),
 (24,⟨some (.pair (.sl .byte) (.pair (.int .i64) (.pair (.sl .byte) .unit))),56,0⟩),
 (25,⟨some (.pair (.sl .byte) (.pair (.int .i64) (.pair (.sl .byte) .unit))),56,0⟩),
 (26,⟨some (.int .i64),8,0⟩),
 (29,⟨some (.pair (.sl .byte) (.pair (.int .i64) (.pair (.sl .byte) .unit))),56,0⟩),
 (40,⟨some (.sl (.int .i32)),24,21⟩),
 (46,⟨some (.arr 3 (.int .i64)),24,3⟩),
 (47,⟨some (.sl (.sl (.int .i32))),24,40⟩),
 (57,⟨some (.sl (.sl .byte)),24,22⟩),
 (106,⟨some (.sl .str),24,9⟩),
 (109,⟨some (.sl (.int .i64)),24,3⟩),
 (133,⟨some (.int .u64),8,0⟩),
 (156,⟨some (.int .u32),4,0⟩),
 (159,⟨some (.int .u64),8,0⟩),
 (162,⟨some (.pair .byte (.pair (.int .i32) .unit)),8,0⟩),
 (163,⟨some (.pair .byte (.pair (.int .i32) .unit)),8,0⟩),
 (164,⟨some (.arr 8 (.pair .byte (.pair (.int .i32) .unit))),64,163⟩),
 (177,⟨some .unit,0,0⟩),
 (178,⟨some .unit,0,0⟩),
 (179,⟨some .unit,0,0⟩),
 (187,⟨some (.arr 32 (.int .i32)),128,21⟩),
 (190,⟨some (.arr 256 .bool),256,4⟩),
 (191,⟨some (.arr 256 .bool),256,4⟩),
 (196,⟨some (.arr 32 .byte),32,5⟩),
 (197,⟨some (.arr 64 .byte),64,5⟩),
 (199,⟨some (.arr 256 .byte),256,5⟩),
 (200,⟨some (.pair .byte (.pair .byte .unit)),2,0⟩),
 (201,⟨some (.pair .byte (.pair .byte .unit)),2,0⟩),
 (202,⟨some (.arr 16 (.pair .byte (.pair .byte .unit))),32,201⟩),
 (213,⟨some .byte,1,0⟩),
 (214,⟨some .byte,1,0⟩),
 (217,⟨some (.int .i32),4,0⟩),
 (218,⟨some (.int .i32),4,0⟩)]
theorem qea:(tis.all fun p=>tyB Tryz.prog (tiOf tis) p.1)=true:=by kernel_rfl
theorem follows:Tryz.prog.follows .mixedOrders=true:=by kernel_rfl
abbrev FnL:=List (FuncId×(List AV→Bool×AV))
abbrev CutL:=Nat→Option (List Nat)
noncomputable def eQ (l:FnL) (nt:Nat) (r:Option (List Nat)) (a b:CutL) (p:Nat→Option PSh):EnvP:=⟨⟨tiOf tis,fnsOf l,cnsOf [],[],nt,a,b,r⟩,p,fun _=>none,fun _=>[],fun _=>none,fun _=>none,fun _=>none,fun _=>none⟩
noncomputable def cO (f:Func):Code:=f.body.getD .skip
def nC:CutL:=fun _=>none
def nP:Nat→Option PSh:=fun _=>none
theorem sQ {E:EnvP} {l:FnL} {nt:Nat} {r:Option (List Nat)} {a b:CutL} {p:Nat→Option PSh} {f:FuncId} {fn:Func} {c:Code} {spec:List AV→Bool×AV} (hE:E=eQ l nt r a b p) (hl:∀ w S,G w S→∀ f,qbh Tryz.prog f (fnsOf l f) w S)
 (hf:Tryz.prog.funcs[f]?=some fn) (hb:fn.body=some c) (hnt:fn.ntmps=nt) (hname:(fn.name == "runtime.NumGoroutine")=false) (hspec:∀ avs r',spec avs=(true,r')→∃ n v,evFnP E n c fn.results avs=some v∧(v=r'∨v.strip=r')):qg G Tryz.prog f spec:=by
 subst hE
 exact qO G_stays (E:=eQ l nt r a b p) (qp rfl qea) (fun w S hg=>⟨⟨hl w S hg,fun f sp h=>qbB f sp h w S⟩,qbH w S hg,(fun _ _ h=>by cases h),(fun f sp h=>qcs f sp h),(fun f it h=>qct f it h),(fun t kt vt h=>qbL t kt vt h)⟩) follows hf hb hnt hname hspec
def s_z123:List AV→Bool×AV
 | [.dat (.sl .byte) a0 _,.dat (.int .i64) a1 _]=>(qwQ a0 a1,(.dat (.sl (.sl .byte)) (z123 a0 a1) none))
 | _=>(false,.bad)
def s_z151:List AV→Bool×AV
 | [.dat (.sl .byte) a0 _,.dat .byte a1 _]=>(true,(.dat (.int .i64) (z151 a0 a1) none))
 | _=>(false,.bad)
def s_z109:List AV→Bool×AV
 | [.dat (.sl .byte) a0 _,.dat .byte a1 _]=>(true,(.dat (.int .i64) (z109 a0 a1) none))
 | _=>(false,.bad)
def s_z125:List AV→Bool×AV
 | [.dat (.sl .byte) a0 _,.dat (.sl .byte) a1 _]=>(qgP a0 a1,(.dat (.int .i64) (z125 a0 a1) none))
 | _=>(false,.bad)
def s_z173:List AV→Bool×AV
 | [.dat (.sl .byte) a0 _]=>(qwP a0,(.dat (.int .i64) (z173 a0) none))
 | _=>(false,.bad)
def s_z174:List AV→Bool×AV
 | [.dat (.sl .byte) a0 _,.dat .byte a1 _]=>(true,(.dat (.int .i64) (z174 a0 a1) none))
 | _=>(false,.bad)
def s_z124:List AV→Bool×AV
 | [.dat (.sl .byte) a0 _,.dat (.sl .byte) a1 _]=>(qgO a0 a1,(.dat (.int .i64) (z124 a0 a1) none))
 | _=>(false,.bad)
def s_z78:List AV→Bool×AV
 | [.dat (.sl .byte) a0 _,.dat (.sl .byte) a1 _,.dat (.int .i64) a2 _,.dat (.int .i64) a3 _]=>(qnC a0 a1 a2 a3,(.dat (.sl (.sl .byte)) (z78 a0 a1 a2 a3) none))
 | _=>(false,.bad)
def s_z37:List AV→Bool×AV
 | [.dat (.sl .byte) a0 _,.dat (.sl .byte) a1 _]=>(qsw a0 a1,(.dat (.sl (.sl .byte)) (z37 a0 a1) none))
 | _=>(false,.bad)
def s_z38:List AV→Bool×AV
 | [.dat (.sl .byte) a0 _]=>(qcU a0,(.dat (.sl .byte) (z38 a0) (some (0,5))))
 | _=>(false,.bad)
def s_z126:List AV→Bool×AV
 | [.dat .byte a0 _]=>(true,(.dat .byte (z126 a0) none))
 | _=>(false,.bad)
def s_z79:List AV→Bool×AV
 | [.dat (.sl .byte) a0 _]=>(qnF a0,(.dat (.sl .byte) (z79 a0) (some (2,5))))
 | _=>(false,.bad)
def s_z39:List AV→Bool×AV
 | [.dat (.sl .byte) a0 _]=>(qnD a0,(.dat (.int .i64) (z39 a0) none))
 | _=>(false,.bad)
def s_z214:List AV→Bool×AV
 | [.dat .byte a0 _]=>(true,(.dat (.int .i64) (z214 a0) none))
 | _=>(false,.bad)
def s_z241:List AV→Bool×AV
 | [.dat .str a0 _,.dat .byte a1 _]=>(true,(.dat (.int .i64) (z241 a0 a1) none))
 | _=>(false,.bad)
def s_z229:List AV→Bool×AV
 | [.dat .str a0 _,.dat .byte a1 _]=>(true,(.dat (.int .i64) (z229 a0 a1) none))
 | _=>(false,.bad)
def s_z192:List AV→Bool×AV
 | [.dat .str a0 _,.dat .byte a1 _]=>(true,(.dat (.int .i64) (z192 a0 a1) none))
 | _=>(false,.bad)
def s_z215:List AV→Bool×AV
 | [.dat .str a0 _,.dat .byte a1 _]=>(true,(.dat .bool (z215 a0 a1) none))
 | _=>(false,.bad)
def s_z180:List AV→Bool×AV
 | [.dat .byte a0 _]=>(true,(.dat (.int .i64) (z180 a0) none))
 | _=>(false,.bad)
def s_z129:List AV→Bool×AV
 | [.dat .byte a0 _,.dat (.int .i64) a1 _]=>(true,(.dat .bool (z129 a0 a1) none))
 | _=>(false,.bad)
def s_z127:List AV→Bool×AV
 | [.dat (.sl .byte) a0 _,.dat (.int .i64) a1 _]=>(qmr a0 a1,(.dat (.int .i64) (z127 a0 a1) none))
 | _=>(false,.bad)
def s_z80:List AV→Bool×AV
 | [.dat (.sl .byte) a0 _,.dat (.int .i64) a1 _]=>(qvZ a0 a1,(.dat .bool (z80 a0 a1) none))
 | _=>(false,.bad)
def s_z40:List AV→Bool×AV
 | [.dat (.sl .byte) a0 _,.dat (.int .i64) a1 _]=>(qdJ a0 a1,(.dat .bool (z40 a0 a1) none))
 | _=>(false,.bad)
def s_z11:List AV→Bool×AV
 | [.dat (.sl .byte) a0 _]=>(qnE a0,(.tup [(.dat (.pair (.sl .byte) (.pair (.int .i64) (.pair (.sl .byte) .unit))) ((z11 a0).1) none),(.dat (.int .i64) ((z11 a0).2) none)]))
 | _=>(false,.bad)
def s_z14:List AV→Bool×AV
 | [.dat (.sl .byte) a0 _]=>(qzA a0,(.dat .bool (z14 a0) none))
 | _=>(false,.bad)
def s_z44:List AV→Bool×AV
 | [.dat (.int .i64) a0 _]=>(true,(.dat .bool (z44 a0) none))
 | _=>(false,.bad)
def s_z45:List AV→Bool×AV
 | [.dat (.int .i64) a0 _]=>(true,(.dat .str (z45 a0) none))
 | _=>(false,.bad)
def s_z84:List AV→Bool×AV
 | [.dat .byte a0 _]=>(true,(.dat (.int .i64) (z84 a0) none))
 | _=>(false,.bad)
def s_z83:List AV→Bool×AV
 | [.dat (.sl .byte) a0 _]=>(qnk a0,(.dat (.int .i64) (z83 a0) none))
 | _=>(false,.bad)
def s_z181:List AV→Bool×AV
 | [.dat (.int .i64) a0 _]=>(qcz a0,(.dat .byte (z181 a0) none))
 | _=>(false,.bad)
def s_z130:List AV→Bool×AV
 | [.dat .byte a0 _]=>(true,(.dat (.sl .byte) (z130 a0) (some (2,5))))
 | _=>(false,.bad)
def s_z85:List AV→Bool×AV
 | [.dat (.sl .byte) a0 _,.dat .byte a1 _,.dat .byte a2 _]=>(qur a0 a1 a2,(.dat (.sl .byte) (z85 a0 a1 a2) (some (6,5))))
 | _=>(false,.bad)
def s_z46:List AV→Bool×AV
 | [.dat (.sl .byte) a0 _]=>(quA a0,(.dat (.sl .byte) (z46 a0) (some (2,5))))
 | _=>(false,.bad)
def s_z132:List AV→Bool×AV
 | [.dat (.int .i64) a0 _]=>(true,(.dat .byte (z132 a0) none))
 | _=>(false,.bad)
def s_z88:List AV→Bool×AV
 | [.dat (.sl .byte) a0 _]=>(qCK a0,(.dat (.sl .byte) (z88 a0) (some (2,5))))
 | _=>(false,.bad)
def s_z47:List AV→Bool×AV
 | [.dat (.sl .byte) a0 _]=>(qxS a0,(.dat (.sl .byte) (z47 a0) none))
 | _=>(false,.bad)
def s_z133:List AV→Bool×AV
 | [.dat (.int .i64) a0 _]=>(true,(.dat (.sl .str) (z133 a0) (some (2,9))))
 | _=>(false,.bad)
def s_z89:List AV→Bool×AV
 | [.dat (.int .i64) a0 _]=>(true,(.dat .str (z89 a0) none))
 | _=>(false,.bad)
def s_z48:List AV→Bool×AV
 | [.dat (.int .i64) a0 _,.dat (.int .i64) a1 _]=>(true,(.dat .str (z48 a0 a1) none))
 | _=>(false,.bad)
def s_z15:List AV→Bool×AV
 | [.dat (.int .i64) a0 _,.dat (.int .i64) a1 _,.dat (.sl .byte) a2 _]=>(qqM a0 a1 a2,(.tup [(.dat (.sl .byte) ((z15 a0 a1 a2).1) none),(.dat (.int .i64) ((z15 a0 a1 a2).2) none)]))
 | _=>(false,.bad)
def s_z17:List AV→Bool×AV
 | [.dat (.int .i64) a0 _]=>(true,(.dat (.int .i64) (z17 a0) none))
 | _=>(false,.bad)
def s_z97:List AV→Bool×AV
 | [.dat (.sl .byte) a0 _]=>(qnn a0,(.dat (.sl (.int .i32)) (z97 a0) (some (2,21))))
 | _=>(false,.bad)
def s_z138:List AV→Bool×AV
 | [.dat (.int .i32) a0 _]=>(true,(.dat (.int .i32) (z138 a0) none))
 | _=>(false,.bad)
def s_z93:List AV→Bool×AV
 | [.dat (.sl .byte) a0 _]=>(quv a0,(.dat (.sl (.int .i32)) (z93 a0) (some (2,21))))
 | _=>(false,.bad)
def s_z185:List AV→Bool×AV
 | []=>(true,(.dat (.arr 8 (.pair .byte (.pair (.int .i32) .unit))) z185 none))
 | _=>(false,.bad)
def s_z139:List AV→Bool×AV
 | [.dat .byte a0 _]=>(true,(.dat (.int .i32) (z139 a0) none))
 | _=>(false,.bad)
def s_z94:List AV→Bool×AV
 | [.dat (.sl .byte) a0 _]=>(qut a0,(.dat (.sl (.int .i32)) (z94 a0) (some (2,21))))
 | _=>(false,.bad)
def s_z186:List AV→Bool×AV
 | []=>(true,(.dat (.sl (.int .i32)) z186 none))
 | _=>(false,.bad)
def s_z140:List AV→Bool×AV
 | [.dat .byte a0 _]=>(true,(.dat (.int .i32) (z140 a0) none))
 | _=>(false,.bad)
def s_z95:List AV→Bool×AV
 | [.dat (.sl .byte) a0 _]=>(quu a0,(.dat (.sl (.int .i32)) (z95 a0) (some (2,21))))
 | _=>(false,.bad)
def s_z142:List AV→Bool×AV
 | [.dat (.int .i32) a0 _,.dat (.int .i64) a1 _,.pbox (.osl 21 (.int .i32)) a2 none]=>((qlM a0 a1 a2),.tup [(.tup []),.bad,.bad,(.pbox (.osl 21 (.int .i32)) (z142 a0 a1 a2) none)])
 | _=>(false,.bad)
def s_z217:List AV→Bool×AV
 | [.dat .byte a0 _]=>(true,(.dat (.int .i64) (z217 a0) none))
 | _=>(false,.bad)
def s_z235:List AV→Bool×AV
 | [.dat .byte a0 _]=>(true,(.dat .bool (z235 a0) none))
 | _=>(false,.bad)
def s_z236:List AV→Bool×AV
 | [.dat .byte a0 _,.dat .byte a1 _]=>(true,(.dat .bool (z236 a0 a1) none))
 | _=>(false,.bad)
def s_z216:List AV→Bool×AV
 | [.dat (.sl .byte) a0 _]=>(qgB a0,(.dat (.int .i64) (z216 a0) none))
 | _=>(false,.bad)
def s_z218:List AV→Bool×AV
 | [.dat (.int .i64) a0 _]=>(true,(.dat .byte (z218 a0) none))
 | _=>(false,.bad)
def s_z187:List AV→Bool×AV
 | [.dat (.sl .byte) a0 _]=>(qlI a0,(.tup [(.dat (.int .i32) ((z187 a0).1) none),(.dat (.int .i64) ((z187 a0).2.1) none),(.dat (.int .i64) ((z187 a0).2.2) none)]))
 | _=>(false,.bad)
def s_z141:List AV→Bool×AV
 | [.dat (.sl .byte) a0 _,.fn 142 [.pbox (.osl 21 (.int .i32)) a1 none]]=>((qbl a0 a1),.tup [(.tup []),.bad,(.pbox (.osl 21 (.int .i32)) (qqN a0 a1) none)])
 | _=>(false,.bad)
def s_z96:List AV→Bool×AV
 | [.dat (.sl .byte) a0 _]=>(qus a0,(.dat (.sl (.int .i32)) (z96 a0) none))
 | _=>(false,.bad)
def s_z52:List AV→Bool×AV
 | [.dat (.int .i64) a0 _,.dat (.sl .byte) a1 _]=>(qno a0 a1,(.dat (.sl (.int .i32)) (z52 a0 a1) none))
 | _=>(false,.bad)
def s_z106:List AV→Bool×AV
 | []=>(true,(.abs (.sl (.pair .str (.int .i64))) (qae .str (.int .i64)) z106))
 | _=>(false,.bad)
def s_z221:List AV→Bool×AV
 | [.dat (.sl .byte) a0 _,.dat .byte a1 _]=>(qsy a0 a1,(.dat (.sl .byte) (z221 a0 a1) none))
 | _=>(false,.bad)
def s_z222:List AV→Bool×AV
 | [.dat (.sl .byte) a0 _,.dat .byte a1 _]=>(qsz a0 a1,(.dat (.sl .byte) (z222 a0 a1) none))
 | _=>(false,.bad)
def s_z223:List AV→Bool×AV
 | [.dat .str a0 _]=>(qgm a0,(.tup [(.dat (.arr 256 .bool) ((z223 a0).1) none),(.dat .bool ((z223 a0).2) none)]))
 | _=>(false,.bad)
def s_z238:List AV→Bool×AV
 | [.adr (.arr 256 .bool) a0,.dat .byte a1 _]=>(true,(.dat .bool (z238 a0 a1) none))
 | _=>(false,.bad)
def s_z224:List AV→Bool×AV
 | [.dat (.sl .byte) a0 _,.adr (.arr 256 .bool) a1]=>(qjk a0 a1,(.dat (.sl .byte) (z224 a0 a1) none))
 | _=>(false,.bad)
def s_z225:List AV→Bool×AV
 | [.dat (.sl .byte) a0 _,.adr (.arr 256 .bool) a1]=>(qjl a0 a1,(.dat (.sl .byte) (z225 a0 a1) none))
 | _=>(false,.bad)
def s_z226:List AV→Bool×AV
 | [.dat (.sl .byte) a0 _,.dat .str a1 _]=>(qsA a0 a1,(.dat (.sl .byte) (z226 a0 a1) none))
 | _=>(false,.bad)
def s_z227:List AV→Bool×AV
 | [.dat (.sl .byte) a0 _,.dat .str a1 _]=>(qsB a0 a1,(.dat (.sl .byte) (z227 a0 a1) none))
 | _=>(false,.bad)
def s_z190:List AV→Bool×AV
 | [.dat (.sl .byte) a0 _,.dat .str a1 _]=>(qgQ a0 a1,(.dat (.sl .byte) (z190 a0 a1) none))
 | _=>(false,.bad)
def s_z148:List AV→Bool×AV
 | [.dat (.sl .byte) a0 _]=>(qgR a0,(.dat (.sl .byte) (z148 a0) (some (2,5))))
 | _=>(false,.bad)
def s_z107:List AV→Bool×AV
 | [.dat (.sl .byte) a0 _]=>(qlJ a0,(.dat (.sl .byte) (z107 a0) (some (2,5))))
 | _=>(false,.bad)
def s_z58:List AV→Bool×AV
 | [.dat (.sl .byte) a0 _]=>(qux a0,(.tup [(.dat (.int .i64) ((z58 a0).1) none),(.dat (.int .i64) ((z58 a0).2) none)]))
 | _=>(false,.bad)
def s_z53:List AV→Bool×AV
 | [.dat (.pair (.sl .byte) (.pair (.int .i64) (.pair (.sl .byte) .unit))) a0 _]=>(qnp a0,(.dat (.int .i64) (z53 a0) none))
 | _=>(false,.bad)
def s_z150:List AV→Bool×AV
 | [.dat .byte a0 _]=>(true,(.tup [(.dat (.int .i64) ((z150 a0).1) none),(.dat .bool ((z150 a0).2) none)]))
 | _=>(false,.bad)
def s_z219:List AV→Bool×AV
 | [.abs s V x,.pbox (.leaf (.sl .byte)) b0 none]=>((z219 (fun x a0 a1=>V.spec x [⟨.byte,a0⟩,⟨(.int .i64),a1⟩]) x b0).1,.tup [.tup [],.abs s V (z219 (fun x a0 a1=>V.spec x [⟨.byte,a0⟩,⟨(.int .i64),a1⟩]) x b0).2.1,.pbox (.leaf (.sl .byte)) ((z219 (fun x a0 a1=>V.spec x [⟨.byte,a0⟩,⟨(.int .i64),a1⟩]) x b0).2.2) none])
 | _=>(false,.bad)
def qwi:Iter:=⟨[.leaf (.sl .byte)],fun s spec x y=>((z219 (fun x a0 a1=>spec x [⟨.byte,a0⟩,⟨(.int .i64),a1⟩]) x y.1).1,(z219 (fun x a0 a1=>spec x [⟨.byte,a0⟩,⟨(.int .i64),a1⟩]) x y.1).2.1)⟩
def s_z188:List AV→Bool×AV
 | [.dat (.sl .byte) a0 _]=>(true,(.abs (qcK [.leaf (.sl .byte)]) (clInv 219 [.leaf (.sl .byte)]) (a0,())))
 | _=>(false,.bad)
def s_z143:List AV→Bool×AV
 | [.dat (.sl .byte) a0 _]=>(qlK a0,(.tup [(.dat (.sl .byte) ((z143 a0).1) none),(.dat (.int .i64) ((z143 a0).2) none)]))
 | _=>(false,.bad)
def s_z98:List AV→Bool×AV
 | [.dat (.sl .byte) a0 _]=>(quy a0,(.dat (.sl .byte) (z98 a0) none))
 | _=>(false,.bad)
def s_z237:List AV→Bool×AV
 | [.dat .byte a0 _]=>(true,(.tup [(.dat (.int .i64) ((z237 a0).1) none),(.dat .bool ((z237 a0).2) none)]))
 | _=>(false,.bad)
def s_z220:List AV→Bool×AV
 | [.dat .byte a0 _,.dat .byte a1 _]=>(true,(.tup [(.dat .byte ((z220 a0 a1).1) none),(.dat .bool ((z220 a0 a1).2) none)]))
 | _=>(false,.bad)
def s_z189:List AV→Bool×AV
 | [.dat (.sl .byte) a0 _,.dat (.int .i64) a1 _,.dat .byte a2 _]=>(qlG a0 a1 a2,(.tup [(.dat .byte ((z189 a0 a1 a2).1) none),(.dat .bool ((z189 a0 a1 a2).2) none)]))
 | _=>(false,.bad)
def s_z144:List AV→Bool×AV
 | [.dat (.sl .byte) a0 _]=>(qlL a0,(.tup [(.dat (.sl .byte) ((z144 a0).1) none),(.dat (.int .i64) ((z144 a0).2) none)]))
 | _=>(false,.bad)
def s_z99:List AV→Bool×AV
 | [.dat (.sl .byte) a0 _]=>(quz a0,(.dat (.sl .byte) (z99 a0) none))
 | _=>(false,.bad)
def s_z54:List AV→Bool×AV
 | [.dat (.pair (.sl .byte) (.pair (.int .i64) (.pair (.sl .byte) .unit))) a0 _]=>(qnq a0,(.dat (.sl .byte) (z54 a0) none))
 | _=>(false,.bad)
def s_z19:List AV→Bool×AV
 | [.dat (.sl .byte) a0 _]=>(qxT a0,(.tup [(.dat (.sl (.int .i32)) ((z19 a0).1) none),(.dat .bool ((z19 a0).2) none)]))
 | _=>(false,.bad)
def s_z10:List AV→Bool×AV
 | []=>(true,(.dat .bool z10 none))
 | _=>(false,.bad)
def s_z13:List AV→Bool×AV
 | [.dat (.sl .byte) a0 _,.dat (.sl .byte) a1 _]=>(qvW a0 a1,(.dat .bool (z13 a0 a1) none))
 | _=>(false,.bad)
def s_z134:List AV→Bool×AV
 | [.dat (.sl .byte) a0 _]=>(qiQ a0,(.dat (.sl (.int .i64)) (z134 a0) (some (2,3))))
 | _=>(false,.bad)
def s_z135:List AV→Bool×AV
 | [.dat (.int .i64) a0 _]=>(true,(.dat .byte (z135 a0) none))
 | _=>(false,.bad)
def s_z136:List AV→Bool×AV
 | [.dat (.sl (.int .i64)) a0 _]=>(qgA a0,(.dat (.int .i64) (z136 a0) none))
 | _=>(false,.bad)
def s_z90:List AV→Bool×AV
 | [.dat (.sl .byte) a0 _]=>(qqL a0,(.dat (.sl .byte) (z90 a0) (some (2,5))))
 | _=>(false,.bad)
def s_z49:List AV→Bool×AV
 | [.dat (.sl .byte) a0 _]=>(qnm a0,(.dat (.sl .byte) (z49 a0) (some (2,5))))
 | _=>(false,.bad)
def s_z179:List AV→Bool×AV
 | [.dat .str a0 _,.dat .byte a1 _]=>(qwR a0 a1,(.dat .bool (z179 a0 a1) none))
 | _=>(false,.bad)
def s_z128:List AV→Bool×AV
 | [.dat .byte a0 _]=>(true,(.dat (.int .i64) (z128 a0) none))
 | _=>(false,.bad)
def s_z82:List AV→Bool×AV
 | [.dat .byte a0 _,.dat (.int .i64) a1 _]=>(true,(.dat .bool (z82 a0 a1) none))
 | _=>(false,.bad)
def s_z184:List AV→Bool×AV
 | [.dat (.int .i64) a0 _]=>(qcA a0,(.dat .byte (z184 a0) none))
 | _=>(false,.bad)
def s_z137:List AV→Bool×AV
 | [.dat (.sl .byte) a0 _,.dat .byte a1 _,.dat .byte a2 _]=>(qlH a0 a1 a2,(.dat (.sl .byte) (z137 a0 a1 a2) (some (6,5))))
 | _=>(false,.bad)
def s_z91:List AV→Bool×AV
 | [.dat .byte a0 _]=>(true,(.dat (.sl .byte) (z91 a0) (some (2,5))))
 | _=>(false,.bad)
def s_z50:List AV→Bool×AV
 | [.dat (.sl .byte) a0 _]=>(qnl a0,(.dat (.sl .byte) (z50 a0) (some (2,5))))
 | _=>(false,.bad)
def s_z92:List AV→Bool×AV
 | [.dat (.int .i64) a0 _]=>(true,(.dat (.sl .str) (z92 a0) (some (2,9))))
 | _=>(false,.bad)
def s_z51:List AV→Bool×AV
 | [.dat (.int .i64) a0 _]=>(true,(.dat .str (z51 a0) none))
 | _=>(false,.bad)
def s_z16:List AV→Bool×AV
 | [.dat (.int .i64) a0 _,.dat (.int .i64) a1 _,.dat (.sl .byte) a2 _]=>(quB a0 a1 a2,(.tup [(.dat (.sl .byte) ((z16 a0 a1 a2).1) none),(.dat (.int .i64) ((z16 a0 a1 a2).2) none)]))
 | _=>(false,.bad)
def s_z18:List AV→Bool×AV
 | [.dat (.int .i64) a0 _]=>(true,(.dat (.int .i64) (z18 a0) none))
 | _=>(false,.bad)
def s_z4:List AV→Bool×AV
 | [.dat (.int .i64) a0 _,.dat (.int .i64) a1 _,.dat (.sl .byte) a2 _]=>(true,(.dat .bool (z4 a0 a1 a2) none))
 | _=>(false,.bad)
theorem qoW:qg G Tryz.prog 241 s_z241:=fun w S hg vals avs r h hS ha=>by
 unfold s_z241 at h
 split at h
 ·simp only [Prod.mk.injEq,true_and] at h
  subst h
  exact qnr Tryz.func241 (by kernel_rfl) (by kernel_rfl) (by kernel_rfl) (by kernel_rfl) hS ha
 ·cases h
theorem qoX:qg G Tryz.prog 151 s_z151:=fun w S hg vals avs r h hS ha=>by
 unfold s_z151 at h
 split at h
 ·simp only [Prod.mk.injEq,true_and] at h
  subst h
  exact qnu hS ha
 ·cases h
theorem qiG:qg G Tryz.prog 125 s_z125:=fun w S hg vals avs r h hS ha=>by
 unfold s_z125 at h
 split at h
 ·simp only [Prod.mk.injEq] at h
  obtain ⟨hp,rfl⟩:=h
  unfold qgP at hp
  simp only [Bool.and_eq_true,decide_eq_true_eq] at hp
  obtain ⟨m,hm⟩:=hg
  have hc:w.cell? ⟨0,0,none⟩=some (.int .i64 m):=by
   cases hm 0 (.int .i64) m rfl with
   | adr _ _ ad cs h1 h2 =>
    have e:cs=[.int .i64 m]:=h1
    subst e
    exact ((h2.2 (by simp)).2 0 _ rfl).2
  exact qns hc hS ha (qo hp.1) (qo hp.2.1) hp.2.2
 ·cases h
theorem qeY:qg G Tryz.prog 38 s_z38:=fun w S hg vals avs r h hS ha=>by
 unfold s_z38 at h
 split at h
 ·simp only [Prod.mk.injEq] at h
  obtain ⟨hp,rfl⟩:=h
  exact qqO hS ha (qo hp)
 ·cases h
theorem qoY:qg G Tryz.prog 174 s_z174:=fun w S hg vals avs r h hS ha=>by
 unfold s_z174 at h
 split at h
 ·simp only [Prod.mk.injEq,true_and] at h
  subst h
  exact qnt hS ha
 ·cases h
theorem qoZ:qg G Tryz.prog 173 s_z173:=fun w S hg vals avs r h hS ha=>by
 unfold s_z173 at h
 split at h
 ·simp only [Prod.mk.injEq] at h
  cases h.1
 ·cases h
theorem qpa:qg G Tryz.prog 123 s_z123:=fun w S hg vals avs r h hS ha=>by
 unfold s_z123 at h
 split at h
 ·simp only [Prod.mk.injEq] at h
  cases h.1
 ·cases h
theorem qpb:qg G Tryz.prog 226 s_z226:=fun w S hg vals avs r h hS ha=>by
 unfold s_z226 at h
 split at h
 ·simp only [Prod.mk.injEq] at h
  cases h.1
 ·cases h
theorem qpc:qg G Tryz.prog 227 s_z227:=fun w S hg vals avs r h hS ha=>by
 unfold s_z227 at h
 split at h
 ·simp only [Prod.mk.injEq] at h
  cases h.1
 ·cases h
noncomputable def qAt:EnvP:=eQ [(151,s_z151)] 8 (some [4]) nC nC nP
noncomputable def qAu:Code:=cO Tryz.f109
noncomputable def qDz:Array ResultVar:=Tryz.f109.results
theorem qAv (n:Nat) (b0:List UInt8) (o0:Lab) (c1:UInt8) (o1:Lab):evFnP qAt n qAu qDz [.dat (.sl .byte) b0 o0,.dat .byte c1 o1]=qwo n b0 c1:=by
 kernel_rfl
theorem qpd:qg G Tryz.prog 109 s_z109:=by
 refine sQ (E:=qAt) (c:=qAu) rfl (fun w S hg=>(qb (qoX w S hg) qd)) Tryz.func109 (by kernel_rfl) (by kernel_rfl) (by kernel_rfl) ?_
 intro avs r h
 unfold s_z109 at h
 split at h
 ·simp only [Prod.mk.injEq,true_and] at h
  subst h
  obtain ⟨n,hn⟩:=quC _ _
  exact ⟨n,_,(qAv n _ _ _ _).trans hn,.inl rfl⟩
 ·cases h
noncomputable def qhz:EnvP:=eQ [(125,s_z125),(173,s_z173),(174,s_z174)] 35 (some [4]) (fun x=>if x=6 then some [0,1,5] else none) (fun x=>if x=0 then some [4] else if x=1 then some [0,1,5] else none) nP
noncomputable def qpe:Code:=cO Tryz.f124
noncomputable def qxL:Array ResultVar:=Tryz.f124.results
theorem qpf (K:Ex→Fr→Option AV):∀ (n:Nat) (s0:List UInt8) (sep1:List UInt8) (n5:Int),evLP qhz n (sub qpe [1,1,1,1,0,0]) K (frOf [(0,(.dat (.sl .byte) s0 none)),(1,(.dat (.sl .byte) sep1 none)),(5,(.dat (.int .i64) n5 none))])=qgE (fun s4=>K .ret (frOf [(4,(.dat (.int .i64) s4 none))])) n s0 sep1 n5:=by
 intro n
 induction n with
 | zero=>intros; rfl
 | succ n IH =>
 intro s0 sep1 n5
 have ih:(fun s0 sep1 n5=>evLP qhz n (sub qpe [1,1,1,1,0,0]) K (frOf [(0,(.dat (.sl .byte) s0 none)),(1,(.dat (.sl .byte) sep1 none)),(5,(.dat (.int .i64) n5 none))]))=qgE (fun s4=>K .ret (frOf [(4,(.dat (.int .i64) s4 none))])) n:=by
  funext s0 sep1 n5
  exact IH s0 sep1 n5
 show _=qlR (fun s4=>K .ret (frOf [(4,(.dat (.int .i64) s4 none))])) (qgE (fun s4=>K .ret (frOf [(4,(.dat (.int .i64) s4 none))])) n) n s0 sep1 n5
 rw [← ih]
 kernel_rfl
theorem qAw (n:Nat) (s0:List UInt8) (o0:Lab) (sep1:List UInt8) (o1:Lab):evFnP qhz n qpe qxL [.dat (.sl .byte) s0 o0,.dat (.sl .byte) sep1 o1]=qra n s0 sep1:=by
 unfold qra
 rw [show qgE qfR n=(fun s0 sep1 n5=>evLP qhz n (sub qpe [1,1,1,1,0,0]) (qc 0 (qhz.cutb 0) (kFnP qhz qxL)) (frOf [(0,(.dat (.sl .byte) s0 none)),(1,(.dat (.sl .byte) sep1 none)),(5,(.dat (.int .i64) n5 none))])) from by
  funext s0 sep1 n5
  refine Eq.trans ?_ (qpf (qc 0 (qhz.cutb 0) (kFnP qhz qxL)) n s0 sep1 n5).symm
  all_goals kernel_rfl]
 kernel_rfl
theorem qpg:qg G Tryz.prog 124 s_z124:=by
 refine sQ (E:=qhz) (c:=qpe) rfl (fun w S hg=>(qb (qiG w S hg) (qb (qoZ w S hg) (qb (qoY w S hg) qd)))) Tryz.func124 (by kernel_rfl) (by kernel_rfl) (by kernel_rfl) ?_
 intro avs r h
 unfold s_z124 at h
 split at h
 ·simp only [Prod.mk.injEq] at h
  obtain ⟨hp,rfl⟩:=h
  obtain ⟨n,hn⟩:=qvF _ _ hp
  exact ⟨n,_,(qAw n _ _ _ _).trans hn,.inl rfl⟩
 ·cases h
noncomputable def E_z78:EnvP:=eQ [(123,s_z123),(124,s_z124),(125,s_z125)] 70 (some [1000008]) (fun x=>if x=11 then some [0,1,2,3,9,10] else none) (fun x=>if x=0 then some [0,9,10] else if x=1 then some [0,1,2,3,9,10] else none) (fun x=>if x=32 then some (.psl 22 (.leaf (.sl .byte))) else none)
noncomputable def C_z78:Code:=cO Tryz.f78
noncomputable def R_z78:Array ResultVar:=Tryz.f78.results
theorem qph (K:Ex→Fr→Option AV):∀ (n:Nat) (s0:List UInt8) (sep1:List UInt8) (sepSave2:Int) (n3:Int) (a9:List (List UInt8)) (i10:Int),evLP E_z78 n (sub C_z78 [1,1,1,1,1,1,1,1,0,0,0]) K (frOf [(0,(.dat (.sl .byte) s0 none)),(1,(.dat (.sl .byte) sep1 none)),(2,(.dat (.int .i64) sepSave2 none)),(3,(.dat (.int .i64) n3 none)),(9,(.pv (.psl 22 (.leaf (.sl .byte))) a9 none)),(10,(.dat (.int .i64) i10 none))])=qcC (fun s0 a9 i10=>K (.exit 0) (frOf [(0,(.dat (.sl .byte) s0 none)),(9,(.pv (.psl 22 (.leaf (.sl .byte))) a9 none)),(10,(.dat (.int .i64) i10 none))])) n s0 sep1 sepSave2 n3 a9 i10:=by
 intro n
 induction n with
 | zero=>intros; rfl
 | succ n IH =>
 intro s0 sep1 sepSave2 n3 a9 i10
 have ih:(fun s0 sep1 sepSave2 n3 a9 i10=>evLP E_z78 n (sub C_z78 [1,1,1,1,1,1,1,1,0,0,0]) K (frOf [(0,(.dat (.sl .byte) s0 none)),(1,(.dat (.sl .byte) sep1 none)),(2,(.dat (.int .i64) sepSave2 none)),(3,(.dat (.int .i64) n3 none)),(9,(.pv (.psl 22 (.leaf (.sl .byte))) a9 none)),(10,(.dat (.int .i64) i10 none))]))=qcC (fun s0 a9 i10=>K (.exit 0) (frOf [(0,(.dat (.sl .byte) s0 none)),(9,(.pv (.psl 22 (.leaf (.sl .byte))) a9 none)),(10,(.dat (.int .i64) i10 none))])) n:=by
  funext s0 sep1 sepSave2 n3 a9 i10
  exact IH s0 sep1 sepSave2 n3 a9 i10
 show _=qcl (fun s0 a9 i10=>K (.exit 0) (frOf [(0,(.dat (.sl .byte) s0 none)),(9,(.pv (.psl 22 (.leaf (.sl .byte))) a9 none)),(10,(.dat (.int .i64) i10 none))])) (qcC (fun s0 a9 i10=>K (.exit 0) (frOf [(0,(.dat (.sl .byte) s0 none)),(9,(.pv (.psl 22 (.leaf (.sl .byte))) a9 none)),(10,(.dat (.int .i64) i10 none))])) n) n s0 sep1 sepSave2 n3 a9 i10
 rw [← ih]
 kernel_rfl
theorem qjQ (n:Nat) (s0:List UInt8) (a9:List (List UInt8)) (i10:Int):(qc 0 (E_z78.cutb 0) (kSeq (evCP E_z78 (evLP E_z78 n) (sub C_z78 [1,1,1,1,1,1,1,1,1])) (kFnP E_z78 R_z78))) (.exit 0) (frOf [(0,(.dat (.sl .byte) s0 none)),(9,(.pv (.psl 22 (.leaf (.sl .byte))) a9 none)),(10,(.dat (.int .i64) i10 none))])=qac n s0 a9 i10:=by
 kernel_rfl
theorem qDA (n:Nat) (s0:List UInt8) (o0:Lab) (sep1:List UInt8) (o1:Lab) (sepSave2:Int) (o2:Lab) (n3:Int) (o3:Lab):evFnP E_z78 n C_z78 R_z78 [.dat (.sl .byte) s0 o0,.dat (.sl .byte) sep1 o1,.dat (.int .i64) sepSave2 o2,.dat (.int .i64) n3 o3]=quZ n s0 sep1 sepSave2 n3:=by
 unfold quZ
 rw [show qcC (qac n) n=(fun s0 sep1 sepSave2 n3 a9 i10=>evLP E_z78 n (sub C_z78 [1,1,1,1,1,1,1,1,0,0,0]) (qc 0 (E_z78.cutb 0) (kSeq (evCP E_z78 (evLP E_z78 n) (sub C_z78 [1,1,1,1,1,1,1,1,1])) (kFnP E_z78 R_z78))) (frOf [(0,(.dat (.sl .byte) s0 none)),(1,(.dat (.sl .byte) sep1 none)),(2,(.dat (.int .i64) sepSave2 none)),(3,(.dat (.int .i64) n3 none)),(9,(.pv (.psl 22 (.leaf (.sl .byte))) a9 none)),(10,(.dat (.int .i64) i10 none))])) from by
  funext s0 sep1 sepSave2 n3 a9 i10
  refine Eq.trans ?_ (qph (qc 0 (E_z78.cutb 0) (kSeq (evCP E_z78 (evLP E_z78 n) (sub C_z78 [1,1,1,1,1,1,1,1,1])) (kFnP E_z78 R_z78))) n s0 sep1 sepSave2 n3 a9 i10).symm
  rw [show (fun s0 a9 i10=>(qc 0 (E_z78.cutb 0) (kSeq (evCP E_z78 (evLP E_z78 n) (sub C_z78 [1,1,1,1,1,1,1,1,1])) (kFnP E_z78 R_z78))) (.exit 0) (frOf [(0,(.dat (.sl .byte) s0 none)),(9,(.pv (.psl 22 (.leaf (.sl .byte))) a9 none)),(10,(.dat (.int .i64) i10 none))]))=(qac n) from by
   funext s0 a9 i10
   exact qjQ n s0 a9 i10]
  all_goals kernel_rfl]
 kernel_rfl
theorem qtz:qg G Tryz.prog 78 s_z78:=by
 refine sQ (E:=E_z78) (c:=C_z78) rfl (fun w S hg=>(qb (qpa w S hg) (qb (qpg w S hg) (qb (qiG w S hg) qd)))) Tryz.func78 (by kernel_rfl) (by kernel_rfl) (by kernel_rfl) ?_
 intro avs r h
 unfold s_z78 at h
 split at h
 ·simp only [Prod.mk.injEq] at h
  obtain ⟨hp,rfl⟩:=h
  obtain ⟨n,hn⟩:=qza _ _ _ _ hp
  exact ⟨n,_,(qDA n _ _ _ _ _ _ _ _).trans hn,.inl rfl⟩
 ·cases h
noncomputable def E_z37:EnvP:=eQ [(78,s_z78)] 8 (some [4]) nC nC nP
noncomputable def C_z37:Code:=cO Tryz.f37
noncomputable def R_z37:Array ResultVar:=Tryz.f37.results
theorem qDB (n:Nat) (s0:List UInt8) (o0:Lab) (sep1:List UInt8) (o1:Lab):evFnP E_z37 n C_z37 R_z37 [.dat (.sl .byte) s0 o0,.dat (.sl .byte) sep1 o1]=qyu n s0 sep1:=by
 kernel_rfl
theorem qtA:qg G Tryz.prog 37 s_z37:=by
 refine sQ (E:=E_z37) (c:=C_z37) rfl (fun w S hg=>(qb (qtz w S hg) qd)) Tryz.func37 (by kernel_rfl) (by kernel_rfl) (by kernel_rfl) ?_
 intro avs r h
 unfold s_z37 at h
 split at h
 ·simp only [Prod.mk.injEq] at h
  obtain ⟨hp,rfl⟩:=h
  obtain ⟨n,hn⟩:=qzb _ _ hp
  exact ⟨n,_,(qDB n _ _ _ _).trans hn,.inl rfl⟩
 ·cases h
noncomputable def qAx:EnvP:=eQ [] 12 (some [2]) nC nC nP
noncomputable def qAy:Code:=cO Tryz.f126
noncomputable def qDC:Array ResultVar:=Tryz.f126.results
theorem qAz (n:Nat) (c0:UInt8) (o0:Lab):evFnP qAx n qAy qDC [.dat .byte c0 o0]=qrb n c0:=by
 kernel_rfl
theorem qiH:qg G Tryz.prog 126 s_z126:=by
 refine sQ (E:=qAx) (c:=qAy) rfl (fun w S hg=>qd) Tryz.func126 (by kernel_rfl) (by kernel_rfl) (by kernel_rfl) ?_
 intro avs r h
 unfold s_z126 at h
 split at h
 ·simp only [Prod.mk.injEq,true_and] at h
  subst h
  obtain ⟨n,hn⟩:=qvA _
  exact ⟨n,_,(qAz n _ _).trans hn,.inl rfl⟩
 ·cases h
noncomputable def E_z79:EnvP:=eQ [(38,s_z38),(126,s_z126)] 22 (some [2]) (fun x=>if x=3 then some [3,8,9,10] else none) (fun x=>if x=0 then some [3] else if x=1 then some [3,8,9,10] else none) (fun x=>if x=7 then some (.psl 5 (.leaf .byte)) else none)
noncomputable def C_z79:Code:=cO Tryz.f79
noncomputable def R_z79:Array ResultVar:=Tryz.f79.results
theorem qtB (K:Ex→Fr→Option AV):∀ (n:Nat) (out3:List UInt8) (s9:Int) (s10:Int),evLP E_z79 n (sub C_z79 [1,1,0,1,0,0]) K (frOf [(3,(.pv (.psl 5 (.leaf .byte)) out3 none)),(8,(.pval 3 [])),(9,(.dat (.int .i64) s9 none)),(10,(.dat (.int .i64) s10 none))])=qhR (fun out3=>K (.exit 0) (frOf [(3,(.pv (.psl 5 (.leaf .byte)) out3 none))])) n out3 s9 s10:=by
 intro n
 induction n with
 | zero=>intros; rfl
 | succ n IH =>
 intro out3 s9 s10
 have ih:(fun out3 s9 s10=>evLP E_z79 n (sub C_z79 [1,1,0,1,0,0]) K (frOf [(3,(.pv (.psl 5 (.leaf .byte)) out3 none)),(8,(.pval 3 [])),(9,(.dat (.int .i64) s9 none)),(10,(.dat (.int .i64) s10 none))]))=qhR (fun out3=>K (.exit 0) (frOf [(3,(.pv (.psl 5 (.leaf .byte)) out3 none))])) n:=by
  funext out3 s9 s10
  exact IH out3 s9 s10
 show _=qee (fun out3=>K (.exit 0) (frOf [(3,(.pv (.psl 5 (.leaf .byte)) out3 none))])) (qhR (fun out3=>K (.exit 0) (frOf [(3,(.pv (.psl 5 (.leaf .byte)) out3 none))])) n) n out3 s9 s10
 rw [← ih]
 kernel_rfl
theorem qmU (n:Nat) (out3:List UInt8):(qc 0 (E_z79.cutb 0) (kSeq (evCP E_z79 (evLP E_z79 n) (sub C_z79 [1,1,1])) (kFnP E_z79 R_z79))) (.exit 0) (frOf [(3,(.pv (.psl 5 (.leaf .byte)) out3 none))])=qfS n out3:=by
 kernel_rfl
theorem qDD (n:Nat) (s0:List UInt8) (o0:Lab):evFnP E_z79 n C_z79 R_z79 [.dat (.sl .byte) s0 o0]=qva n s0:=by
 unfold qva
 rw [show qhR (qfS n) n=(fun out3 s9 s10=>evLP E_z79 n (sub C_z79 [1,1,0,1,0,0]) (qc 0 (E_z79.cutb 0) (kSeq (evCP E_z79 (evLP E_z79 n) (sub C_z79 [1,1,1])) (kFnP E_z79 R_z79))) (frOf [(3,(.pv (.psl 5 (.leaf .byte)) out3 none)),(8,(.pval 3 [])),(9,(.dat (.int .i64) s9 none)),(10,(.dat (.int .i64) s10 none))])) from by
  funext out3 s9 s10
  refine Eq.trans ?_ (qtB (qc 0 (E_z79.cutb 0) (kSeq (evCP E_z79 (evLP E_z79 n) (sub C_z79 [1,1,1])) (kFnP E_z79 R_z79))) n out3 s9 s10).symm
  rw [show (fun out3=>(qc 0 (E_z79.cutb 0) (kSeq (evCP E_z79 (evLP E_z79 n) (sub C_z79 [1,1,1])) (kFnP E_z79 R_z79))) (.exit 0) (frOf [(3,(.pv (.psl 5 (.leaf .byte)) out3 none))]))=(qfS n) from by
   funext out3
   exact qmU n out3]
  all_goals kernel_rfl]
 kernel_rfl
theorem qlw:qg G Tryz.prog 79 s_z79:=by
 refine sQ (E:=E_z79) (c:=C_z79) rfl (fun w S hg=>(qb (qeY w S hg) (qb (qiH w S hg) qd))) Tryz.func79 (by kernel_rfl) (by kernel_rfl) (by kernel_rfl) ?_
 intro avs r h
 unfold s_z79 at h
 split at h
 ·simp only [Prod.mk.injEq] at h
  obtain ⟨hp,rfl⟩:=h
  obtain ⟨n,hn⟩:=qyX _ hp
  exact ⟨n,_,(qDD n _ _).trans hn,.inl rfl⟩
 ·cases h
noncomputable def E_z39:EnvP:=eQ [(79,s_z79)] 10 (some [2]) nC (fun x=>if x=0 then some [] else none) nP
noncomputable def C_z39:Code:=cO Tryz.f39
noncomputable def R_z39:Array ResultVar:=Tryz.f39.results
theorem qDE (n:Nat) (s0:List UInt8) (o0:Lab):evFnP E_z39 n C_z39 R_z39 [.dat (.sl .byte) s0 o0]=qyv n s0:=by
 kernel_rfl
theorem qtC:qg G Tryz.prog 39 s_z39:=by
 refine sQ (E:=E_z39) (c:=C_z39) rfl (fun w S hg=>(qb (qlw w S hg) qd)) Tryz.func39 (by kernel_rfl) (by kernel_rfl) (by kernel_rfl) ?_
 intro avs r h
 unfold s_z39 at h
 split at h
 ·simp only [Prod.mk.injEq] at h
  obtain ⟨hp,rfl⟩:=h
  obtain ⟨n,hn⟩:=qzc _ hp
  exact ⟨n,_,(qDE n _ _).trans hn,.inl rfl⟩
 ·cases h
noncomputable def qAA:EnvP:=eQ [] 46 (some [2]) nC (fun x=>if x=0 then some [3] else none) nP
noncomputable def qAB:Code:=cO Tryz.f214
noncomputable def qDF:Array ResultVar:=Tryz.f214.results
theorem qAC (n:Nat) (c0:UInt8) (o0:Lab):evFnP qAA n qAB qDF [.dat .byte c0 o0]=qrc n c0:=by
 kernel_rfl
theorem qpi:qg G Tryz.prog 214 s_z214:=by
 refine sQ (E:=qAA) (c:=qAB) rfl (fun w S hg=>qd) Tryz.func214 (by kernel_rfl) (by kernel_rfl) (by kernel_rfl) ?_
 intro avs r h
 unfold s_z214 at h
 split at h
 ·simp only [Prod.mk.injEq,true_and] at h
  subst h
  obtain ⟨n,hn⟩:=qvp _
  exact ⟨n,_,(qAC n _ _).trans hn,.inl rfl⟩
 ·cases h
noncomputable def qAD:EnvP:=eQ [(241,s_z241)] 8 (some [4]) nC nC nP
noncomputable def qAE:Code:=cO Tryz.f229
noncomputable def qDG:Array ResultVar:=Tryz.f229.results
theorem qAF (n:Nat) (s0:List UInt8) (o0:Lab) (c1:UInt8) (o1:Lab):evFnP qAD n qAE qDG [.dat .str s0 o0,.dat .byte c1 o1]=qwr n s0 c1:=by
 kernel_rfl
theorem qpj:qg G Tryz.prog 229 s_z229:=by
 refine sQ (E:=qAD) (c:=qAE) rfl (fun w S hg=>(qb (qoW w S hg) qd)) Tryz.func229 (by kernel_rfl) (by kernel_rfl) (by kernel_rfl) ?_
 intro avs r h
 unfold s_z229 at h
 split at h
 ·simp only [Prod.mk.injEq,true_and] at h
  subst h
  obtain ⟨n,hn⟩:=qvq _ _
  exact ⟨n,_,(qAF n _ _ _ _).trans hn,.inl rfl⟩
 ·cases h
noncomputable def qAG:EnvP:=eQ [(229,s_z229)] 8 (some [4]) nC nC nP
noncomputable def qAH:Code:=cO Tryz.f192
noncomputable def qDH:Array ResultVar:=Tryz.f192.results
theorem qAI (n:Nat) (s0:List UInt8) (o0:Lab) (c1:UInt8) (o1:Lab):evFnP qAG n qAH qDH [.dat .str s0 o0,.dat .byte c1 o1]=qws n s0 c1:=by
 kernel_rfl
theorem qiI:qg G Tryz.prog 192 s_z192:=by
 refine sQ (E:=qAG) (c:=qAH) rfl (fun w S hg=>(qb (qpj w S hg) qd)) Tryz.func192 (by kernel_rfl) (by kernel_rfl) (by kernel_rfl) ?_
 intro avs r h
 unfold s_z192 at h
 split at h
 ·simp only [Prod.mk.injEq,true_and] at h
  subst h
  obtain ⟨n,hn⟩:=qvr _ _
  exact ⟨n,_,(qAI n _ _ _ _).trans hn,.inl rfl⟩
 ·cases h
end Go.Av
