import Derived.Test.YtopepdfipgfakaaGreatDoorEfP12
import Derived.Test.YtopepdfipgfakaaGreatDoorEfLayX
import Derived.Test.YtopepdfipgfakaaGreatDoorProg
import Derived.KernelRfl
namespace Go.Av
set_option linter.unusedVariables false
noncomputable section
open Go.Proofs
set_option maxRecDepth 100000
def tis:List (TypeId×TI):=[(2,⟨some (.int .i64),8,0⟩),
 (3,⟨some (.int .i64),8,0⟩),
 (4,⟨some .bool,1,0⟩),
 (5,⟨some .byte,1,0⟩),
 (6,⟨some .byte,1,0⟩),
 (7,⟨some (.pair (.int .i64) (.pair (.int .i64) (.pair .bool (.pair .byte .unit)))),24,0⟩),
 (8,⟨some (.pair (.int .i64) (.pair (.int .i64) (.pair .bool (.pair .byte .unit)))),24,0⟩),
 (9,⟨some .str,16,0⟩),
 (10,⟨some .str,16,0⟩),
 (11,⟨some .str,16,0⟩),
 (12,⟨some (.int .u64),8,0⟩),
 (13,⟨some (.pair .str (.pair (.int .u64) .unit)),24,0⟩),
 (14,⟨some (.pair .str (.pair (.int .u64) .unit)),24,0⟩),
 (21,⟨some (.int .i32),4,0⟩),
 (22,⟨some (.sl .byte),24,5⟩),
 (24,⟨some (.pair (.sl .byte) (.pair (.int .i64) (.pair (.sl .byte) .unit))),56,0⟩),
 (25,⟨some (.pair (.sl .byte) (.pair (.int .i64) (.pair (.sl .byte) .unit))),56,0⟩),
 (26,⟨some (.int .i64),8,0⟩),
 (29,⟨some (.pair (.sl .byte) (.pair (.int .i64) (.pair (.sl .byte) .unit))),56,0⟩),
 (40,⟨some (.sl (.int .i32)),24,21⟩),
 (46,⟨some (.arr 3 (.int .i64)),24,3⟩),
 (47,⟨some (.sl (.sl (.int .i32))),24,40⟩),
 (57,⟨some (.sl (.sl .byte)),24,22⟩),
 (106,⟨some (.sl .str),24,9⟩),
 (109,⟨some (.sl (.int .i64)),24,3⟩),
 (133,⟨some (.int .u64),8,0⟩),
 (156,⟨some (.int .u32),4,0⟩),
 (159,⟨some (.int .u64),8,0⟩),
 (162,⟨some (.pair .byte (.pair (.int .i32) .unit)),8,0⟩),
 (163,⟨some (.pair .byte (.pair (.int .i32) .unit)),8,0⟩),
 (164,⟨some (.arr 8 (.pair .byte (.pair (.int .i32) .unit))),64,163⟩),
 (177,⟨some .unit,0,0⟩),
 (178,⟨some .unit,0,0⟩),
 (179,⟨some .unit,0,0⟩),
 (187,⟨some (.arr 32 (.int .i32)),128,21⟩),
 (190,⟨some (.arr 256 .bool),256,4⟩),
 (191,⟨some (.arr 256 .bool),256,4⟩),
 (196,⟨some (.arr 32 .byte),32,5⟩),
 (197,⟨some (.arr 64 .byte),64,5⟩),
 (199,⟨some (.arr 256 .byte),256,5⟩),
 (200,⟨some (.pair .byte (.pair .byte .unit)),2,0⟩),
 (201,⟨some (.pair .byte (.pair .byte .unit)),2,0⟩),
 (202,⟨some (.arr 16 (.pair .byte (.pair .byte .unit))),32,201⟩),
 (213,⟨some .byte,1,0⟩),
 (214,⟨some .byte,1,0⟩),
 (217,⟨some (.int .i32),4,0⟩),
 (218,⟨some (.int .i32),4,0⟩)]
theorem qfa:(tis.all fun p=>tyB Tryz.prog (tiOf tis) p.1)=true:=by kernel_rfl
theorem follows:Tryz.prog.follows .mixedOrders=true:=by kernel_rfl
abbrev FnL:=List (FuncId×(List AV→Bool×AV))
abbrev CutL:=Nat→Option (List Nat)
def eQ (l:FnL) (nt:Nat) (r:Option (List Nat)) (a b:CutL) (p:Nat→Option PSh):EnvP:=⟨⟨tiOf tis,fnsOf l,cnsOf [],[],nt,a,b,r⟩,p,fun _=>none,fun _=>[],fun _=>none,fun _=>none,fun _=>none,fun _=>none⟩
def cO (f:Func):Code:=f.body.getD .skip
def nC:CutL:=fun _=>none
def nP:Nat→Option PSh:=fun _=>none
theorem sQ {E:EnvP} {l:FnL} {nt:Nat} {r:Option (List Nat)} {a b:CutL} {p:Nat→Option PSh} {f:FuncId} {fn:Func} {c:Code} {spec:List AV→Bool×AV} (hE:E=eQ l nt r a b p) (hl:∀ w S,G w S→∀ f,qbG Tryz.prog f (fnsOf l f) w S)
 (hf:Tryz.prog.funcs[f]? = some fn) (hspec:∀ avs r',spec avs=(true,r')→∃ n v,evFnP E n c fn.results avs=some v∧(v=r'∨v.strip=r')) (hb:fn.body=some c:=by kernel_rfl) (hnt:fn.ntmps=nt:=by kernel_rfl) (hname:(fn.name == "runtime.NumGoroutine")=false:=by kernel_rfl):qe G Tryz.prog f spec:=by
 subst hE
 exact qP G_stays (E:=eQ l nt r a b p) (qr rfl qfa) (fun w S hg=>⟨⟨hl w S hg,fun f sp h=>qcg f sp h w S⟩,qcj w S hg,(fun _ _ h=>by cases h),(fun f sp h=>qdi f sp h),(fun f it h=>qdj f it h),(fun t kt vt h=>qcn t kt vt h)⟩) follows hf hb hnt hname hspec
def s_z123:List AV→Bool×AV
 | [.dat (.sl .byte) a0 _,.dat (.int .i64) a1 _]=>(qCj a0 a1,(.dat (.sl (.sl .byte)) (z123 a0 a1) none))
 | _=>(false,.bad)
def s_z151:List AV→Bool×AV
 | [.dat (.sl .byte) a0 _,.dat .byte a1 _]=>(true,(.dat (.int .i64) (z151 a0 a1) none))
 | _=>(false,.bad)
def s_z109:List AV→Bool×AV
 | [.dat (.sl .byte) a0 _,.dat .byte a1 _]=>(true,(.dat (.int .i64) (z109 a0 a1) none))
 | _=>(false,.bad)
def s_z175:List AV→Bool×AV
 | [.dat (.sl .byte) a0 _,.dat (.sl .byte) a1 _]=>(true,(.dat .bool (z175 a0 a1) none))
 | _=>(false,.bad)
def s_z125:List AV→Bool×AV
 | [.dat (.sl .byte) a0 _,.dat (.sl .byte) a1 _]=>(qiM a0 a1,(.dat (.int .i64) (z125 a0 a1) none))
 | _=>(false,.bad)
def s_z173:List AV→Bool×AV
 | [.dat (.sl .byte) a0 _]=>(qCi a0,(.dat (.int .i64) (z173 a0) none))
 | _=>(false,.bad)
def s_z174:List AV→Bool×AV
 | [.dat (.sl .byte) a0 _,.dat .byte a1 _]=>(true,(.dat (.int .i64) (z174 a0 a1) none))
 | _=>(false,.bad)
def s_z124:List AV→Bool×AV
 | [.dat (.sl .byte) a0 _,.dat (.sl .byte) a1 _]=>(qiL a0 a1,(.dat (.int .i64) (z124 a0 a1) none))
 | _=>(false,.bad)
def s_z78:List AV→Bool×AV
 | [.dat (.sl .byte) a0 _,.dat (.sl .byte) a1 _,.dat (.int .i64) a2 _,.dat (.int .i64) a3 _]=>(qrf a0 a1 a2 a3,(.dat (.sl (.sl .byte)) (z78 a0 a1 a2 a3) none))
 | _=>(false,.bad)
def s_z37:List AV→Bool×AV
 | [.dat (.sl .byte) a0 _,.dat (.sl .byte) a1 _]=>(qxa a0 a1,(.dat (.sl (.sl .byte)) (z37 a0 a1) none))
 | _=>(false,.bad)
def s_z38:List AV→Bool×AV
 | [.dat (.sl .byte) a0 _]=>(qdP a0,(.dat (.sl .byte) (z38 a0) (some (0,5))))
 | _=>(false,.bad)
def s_z126:List AV→Bool×AV
 | [.dat .byte a0 _]=>(true,(.dat .byte (z126 a0) none))
 | _=>(false,.bad)
def s_z79:List AV→Bool×AV
 | [.dat (.sl .byte) a0 _]=>(qrh a0,(.dat (.sl .byte) (z79 a0) (some (2,5))))
 | _=>(false,.bad)
def s_z39:List AV→Bool×AV
 | [.dat (.sl .byte) a0 _]=>(qrg a0,(.dat (.int .i64) (z39 a0) none))
 | _=>(false,.bad)
def s_z214:List AV→Bool×AV
 | [.dat .byte a0 _]=>(true,(.dat (.int .i64) (z214 a0) none))
 | _=>(false,.bad)
def s_z241:List AV→Bool×AV
 | [.dat .str a0 _,.dat .byte a1 _]=>(true,(.dat (.int .i64) (z241 a0 a1) none))
 | _=>(false,.bad)
def s_z229:List AV→Bool×AV
 | [.dat .str a0 _,.dat .byte a1 _]=>(true,(.dat (.int .i64) (z229 a0 a1) none))
 | _=>(false,.bad)
def s_z192:List AV→Bool×AV
 | [.dat .str a0 _,.dat .byte a1 _]=>(true,(.dat (.int .i64) (z192 a0 a1) none))
 | _=>(false,.bad)
def s_z215:List AV→Bool×AV
 | [.dat .str a0 _,.dat .byte a1 _]=>(true,(.dat .bool (z215 a0 a1) none))
 | _=>(false,.bad)
def s_z180:List AV→Bool×AV
 | [.dat .byte a0 _]=>(true,(.dat (.int .i64) (z180 a0) none))
 | _=>(false,.bad)
def s_z129:List AV→Bool×AV
 | [.dat .byte a0 _,.dat (.int .i64) a1 _]=>(true,(.dat .bool (z129 a0 a1) none))
 | _=>(false,.bad)
def s_z127:List AV→Bool×AV
 | [.dat (.sl .byte) a0 _,.dat (.int .i64) a1 _]=>(qpN a0 a1,(.dat (.int .i64) (z127 a0 a1) none))
 | _=>(false,.bad)
def s_z80:List AV→Bool×AV
 | [.dat (.sl .byte) a0 _,.dat (.int .i64) a1 _]=>(qri a0 a1,(.dat .bool (z80 a0 a1) none))
 | _=>(false,.bad)
def s_z40:List AV→Bool×AV
 | [.dat (.sl .byte) a0 _,.dat (.int .i64) a1 _]=>(qeI a0 a1,(.dat .bool (z40 a0 a1) none))
 | _=>(false,.bad)
def s_z11:List AV→Bool×AV
 | [.dat (.sl .byte) a0 _]=>(qie a0,(.tup [(.dat (.pair (.sl .byte) (.pair (.int .i64) (.pair (.sl .byte) .unit))) ((z11 a0).1) none),(.dat (.int .i64) ((z11 a0).2) none)]))
 | _=>(false,.bad)
def s_z14:List AV→Bool×AV
 | [.dat (.sl .byte) a0 _]=>(qFv a0,(.dat .bool (z14 a0) none))
 | _=>(false,.bad)
def s_z44:List AV→Bool×AV
 | [.dat (.int .i64) a0 _]=>(true,(.dat .bool (z44 a0) none))
 | _=>(false,.bad)
def s_z45:List AV→Bool×AV
 | [.dat (.int .i64) a0 _]=>(true,(.dat .str (z45 a0) none))
 | _=>(false,.bad)
def s_z84:List AV→Bool×AV
 | [.dat .byte a0 _]=>(true,(.dat (.int .i64) (z84 a0) none))
 | _=>(false,.bad)
def s_z83:List AV→Bool×AV
 | [.dat (.sl .byte) a0 _]=>(qqL a0,(.dat (.int .i64) (z83 a0) none))
 | _=>(false,.bad)
def s_z181:List AV→Bool×AV
 | [.dat (.int .i64) a0 _]=>(qdp a0,(.dat .byte (z181 a0) none))
 | _=>(false,.bad)
def s_z130:List AV→Bool×AV
 | [.dat .byte a0 _]=>(true,(.dat (.sl .byte) (z130 a0) (some (2,5))))
 | _=>(false,.bad)
def s_z85:List AV→Bool×AV
 | [.dat (.sl .byte) a0 _,.dat .byte a1 _,.dat .byte a2 _]=>(qzd a0 a1 a2,(.dat (.sl .byte) (z85 a0 a1 a2) (some (6,5))))
 | _=>(false,.bad)
def s_z46:List AV→Bool×AV
 | [.dat (.sl .byte) a0 _]=>(qzq a0,(.dat (.sl .byte) (z46 a0) (some (2,5))))
 | _=>(false,.bad)
def s_z132:List AV→Bool×AV
 | [.dat (.int .i64) a0 _]=>(true,(.dat .byte (z132 a0) none))
 | _=>(false,.bad)
def s_z88:List AV→Bool×AV
 | [.dat (.sl .byte) a0 _]=>(qJi a0,(.dat (.sl .byte) (z88 a0) (some (2,5))))
 | _=>(false,.bad)
def s_z47:List AV→Bool×AV
 | [.dat (.sl .byte) a0 _]=>(qDi a0,(.dat (.sl .byte) (z47 a0) none))
 | _=>(false,.bad)
def s_z133:List AV→Bool×AV
 | [.dat (.int .i64) a0 _]=>(true,(.dat (.sl .str) (z133 a0) (some (2,9))))
 | _=>(false,.bad)
def s_z89:List AV→Bool×AV
 | [.dat (.int .i64) a0 _]=>(true,(.dat .str (z89 a0) none))
 | _=>(false,.bad)
def s_z48:List AV→Bool×AV
 | [.dat (.int .i64) a0 _,.dat (.int .i64) a1 _]=>(true,(.dat .str (z48 a0 a1) none))
 | _=>(false,.bad)
def s_z15:List AV→Bool×AV
 | [.dat (.int .i64) a0 _,.dat (.int .i64) a1 _,.dat (.sl .byte) a2 _]=>(qDj a0 a1 a2,(.tup [(.dat (.sl .byte) ((z15 a0 a1 a2).1) none),(.dat (.int .i64) ((z15 a0 a1 a2).2) none)]))
 | _=>(false,.bad)
def s_z17:List AV→Bool×AV
 | [.dat (.int .i64) a0 _]=>(true,(.dat (.int .i64) (z17 a0) none))
 | _=>(false,.bad)
def s_z97:List AV→Bool×AV
 | [.dat (.sl .byte) a0 _]=>(qqM a0,(.dat (.sl (.int .i32)) (z97 a0) (some (2,21))))
 | _=>(false,.bad)
def s_z138:List AV→Bool×AV
 | [.dat (.int .i32) a0 _]=>(true,(.dat (.int .i32) (z138 a0) none))
 | _=>(false,.bad)
def s_z93:List AV→Bool×AV
 | [.dat (.sl .byte) a0 _]=>(qzh a0,(.dat (.sl (.int .i32)) (z93 a0) (some (2,21))))
 | _=>(false,.bad)
def s_z185:List AV→Bool×AV
 | []=>(true,(.dat (.arr 8 (.pair .byte (.pair (.int .i32) .unit))) z185 none))
 | _=>(false,.bad)
def s_z139:List AV→Bool×AV
 | [.dat .byte a0 _]=>(true,(.dat (.int .i32) (z139 a0) none))
 | _=>(false,.bad)
def s_z94:List AV→Bool×AV
 | [.dat (.sl .byte) a0 _]=>(qzf a0,(.dat (.sl (.int .i32)) (z94 a0) (some (2,21))))
 | _=>(false,.bad)
def s_z186:List AV→Bool×AV
 | []=>(true,(.dat (.sl (.int .i32)) z186 none))
 | _=>(false,.bad)
def s_z140:List AV→Bool×AV
 | [.dat .byte a0 _]=>(true,(.dat (.int .i32) (z140 a0) none))
 | _=>(false,.bad)
def s_z95:List AV→Bool×AV
 | [.dat (.sl .byte) a0 _]=>(qzg a0,(.dat (.sl (.int .i32)) (z95 a0) (some (2,21))))
 | _=>(false,.bad)
def s_z142:List AV→Bool×AV
 | [.dat (.int .i32) a0 _,.dat (.int .i64) a1 _,.pbox (.osl 21 (.int .i32)) a2 none]=>((qoS a0 a1 a2),.tup [(.tup []),.bad,.bad,(.pbox (.osl 21 (.int .i32)) (z142 a0 a1 a2) none)])
 | _=>(false,.bad)
def s_z217:List AV→Bool×AV
 | [.dat .byte a0 _]=>(true,(.dat (.int .i64) (z217 a0) none))
 | _=>(false,.bad)
def s_z235:List AV→Bool×AV
 | [.dat .byte a0 _]=>(true,(.dat .bool (z235 a0) none))
 | _=>(false,.bad)
def s_z236:List AV→Bool×AV
 | [.dat .byte a0 _,.dat .byte a1 _]=>(true,(.dat .bool (z236 a0 a1) none))
 | _=>(false,.bad)
def s_z216:List AV→Bool×AV
 | [.dat (.sl .byte) a0 _]=>(qio a0,(.dat (.int .i64) (z216 a0) none))
 | _=>(false,.bad)
def s_z218:List AV→Bool×AV
 | [.dat (.int .i64) a0 _]=>(true,(.dat .byte (z218 a0) none))
 | _=>(false,.bad)
def s_z187:List AV→Bool×AV
 | [.dat (.sl .byte) a0 _]=>(qoH a0,(.tup [(.dat (.int .i32) ((z187 a0).1) none),(.dat (.int .i64) ((z187 a0).2.1) none),(.dat (.int .i64) ((z187 a0).2.2) none)]))
 | _=>(false,.bad)
def s_z141:List AV→Bool×AV
 | [.dat (.sl .byte) a0 _,.fn 142 [.pbox (.osl 21 (.int .i32)) a1 none]]=>((qbL a0 a1),.tup [(.tup []),.bad,(.pbox (.osl 21 (.int .i32)) (quY a0 a1) none)])
 | _=>(false,.bad)
def s_z96:List AV→Bool×AV
 | [.dat (.sl .byte) a0 _]=>(qze a0,(.dat (.sl (.int .i32)) (z96 a0) none))
 | _=>(false,.bad)
def s_z52:List AV→Bool×AV
 | [.dat (.int .i64) a0 _,.dat (.sl .byte) a1 _]=>(qqN a0 a1,(.dat (.sl (.int .i32)) (z52 a0 a1) none))
 | _=>(false,.bad)
def s_z106:List AV→Bool×AV
 | []=>(true,(.abs (.sl (.pair .str (.int .i64))) (qak .str (.int .i64)) z106))
 | _=>(false,.bad)
def s_z221:List AV→Bool×AV
 | [.dat (.sl .byte) a0 _,.dat .byte a1 _]=>(qxb a0 a1,(.dat (.sl .byte) (z221 a0 a1) none))
 | _=>(false,.bad)
def s_z222:List AV→Bool×AV
 | [.dat (.sl .byte) a0 _,.dat .byte a1 _]=>(qxc a0 a1,(.dat (.sl .byte) (z222 a0 a1) none))
 | _=>(false,.bad)
def s_z223:List AV→Bool×AV
 | [.dat .str a0 _]=>(qhV a0,(.tup [(.dat (.arr 256 .bool) ((z223 a0).1) none),(.dat .bool ((z223 a0).2) none)]))
 | _=>(false,.bad)
def s_z238:List AV→Bool×AV
 | [.adr (.arr 256 .bool) a0,.dat .byte a1 _]=>(true,(.dat .bool (z238 a0 a1) none))
 | _=>(false,.bad)
def s_z224:List AV→Bool×AV
 | [.dat (.sl .byte) a0 _,.adr (.arr 256 .bool) a1]=>(qlT a0 a1,(.dat (.sl .byte) (z224 a0 a1) none))
 | _=>(false,.bad)
def s_z225:List AV→Bool×AV
 | [.dat (.sl .byte) a0 _,.adr (.arr 256 .bool) a1]=>(qlU a0 a1,(.dat (.sl .byte) (z225 a0 a1) none))
 | _=>(false,.bad)
def s_z226:List AV→Bool×AV
 | [.dat (.sl .byte) a0 _,.dat .str a1 _]=>(qxd a0 a1,(.dat (.sl .byte) (z226 a0 a1) none))
 | _=>(false,.bad)
def s_z227:List AV→Bool×AV
 | [.dat (.sl .byte) a0 _,.dat .str a1 _]=>(qxe a0 a1,(.dat (.sl .byte) (z227 a0 a1) none))
 | _=>(false,.bad)
def s_z190:List AV→Bool×AV
 | [.dat (.sl .byte) a0 _,.dat .str a1 _]=>(qiN a0 a1,(.dat (.sl .byte) (z190 a0 a1) none))
 | _=>(false,.bad)
def s_z148:List AV→Bool×AV
 | [.dat (.sl .byte) a0 _]=>(qiO a0,(.dat (.sl .byte) (z148 a0) (some (2,5))))
 | _=>(false,.bad)
def s_z107:List AV→Bool×AV
 | [.dat (.sl .byte) a0 _]=>(qoK a0,(.dat (.sl .byte) (z107 a0) (some (2,5))))
 | _=>(false,.bad)
def s_z58:List AV→Bool×AV
 | [.dat (.sl .byte) a0 _]=>(qqP a0,(.tup [(.dat (.int .i64) ((z58 a0).1) none),(.dat (.int .i64) ((z58 a0).2) none)]))
 | _=>(false,.bad)
def s_z53:List AV→Bool×AV
 | [.dat (.pair (.sl .byte) (.pair (.int .i64) (.pair (.sl .byte) .unit))) a0 _]=>(qlm a0,(.dat (.int .i64) (z53 a0) none))
 | _=>(false,.bad)
def s_z150:List AV→Bool×AV
 | [.dat .byte a0 _]=>(true,(.tup [(.dat (.int .i64) ((z150 a0).1) none),(.dat .bool ((z150 a0).2) none)]))
 | _=>(false,.bad)
def s_z219:List AV→Bool×AV
 | [.abs s V x,.pbox (.leaf (.sl .byte)) b0 none]=>((z219 (fun x a0 a1=>V.spec x [⟨.byte,a0⟩,⟨(.int .i64),a1⟩]) x b0).1,.tup [.tup [],.abs s V (z219 (fun x a0 a1=>V.spec x [⟨.byte,a0⟩,⟨(.int .i64),a1⟩]) x b0).2.1,.pbox (.leaf (.sl .byte)) ((z219 (fun x a0 a1=>V.spec x [⟨.byte,a0⟩,⟨(.int .i64),a1⟩]) x b0).2.2) none])
 | _=>(false,.bad)
def qBz:Iter:=⟨[.leaf (.sl .byte)],fun s spec x y=>((z219 (fun x a0 a1=>spec x [⟨.byte,a0⟩,⟨(.int .i64),a1⟩]) x y.1).1,(z219 (fun x a0 a1=>spec x [⟨.byte,a0⟩,⟨(.int .i64),a1⟩]) x y.1).2.1)⟩
def s_z188:List AV→Bool×AV
 | [.dat (.sl .byte) a0 _]=>(true,(.abs (qdC [.leaf (.sl .byte)]) (clInv 219 [.leaf (.sl .byte)]) (a0,())))
 | _=>(false,.bad)
def s_z143:List AV→Bool×AV
 | [.dat (.sl .byte) a0 _]=>(qoO a0,(.tup [(.dat (.sl .byte) ((z143 a0).1) none),(.dat (.int .i64) ((z143 a0).2) none)]))
 | _=>(false,.bad)
def s_z98:List AV→Bool×AV
 | [.dat (.sl .byte) a0 _]=>(qzl a0,(.dat (.sl .byte) (z98 a0) none))
 | _=>(false,.bad)
def s_z237:List AV→Bool×AV
 | [.dat .byte a0 _]=>(true,(.tup [(.dat (.int .i64) ((z237 a0).1) none),(.dat .bool ((z237 a0).2) none)]))
 | _=>(false,.bad)
def s_z220:List AV→Bool×AV
 | [.dat .byte a0 _,.dat .byte a1 _]=>(true,(.tup [(.dat .byte ((z220 a0 a1).1) none),(.dat .bool ((z220 a0 a1).2) none)]))
 | _=>(false,.bad)
def s_z189:List AV→Bool×AV
 | [.dat (.sl .byte) a0 _,.dat (.int .i64) a1 _,.dat .byte a2 _]=>(qoF a0 a1 a2,(.tup [(.dat .byte ((z189 a0 a1 a2).1) none),(.dat .bool ((z189 a0 a1 a2).2) none)]))
 | _=>(false,.bad)
def s_z144:List AV→Bool×AV
 | [.dat (.sl .byte) a0 _]=>(qir a0,(.tup [(.dat (.sl .byte) ((z144 a0).1) none),(.dat (.int .i64) ((z144 a0).2) none)]))
 | _=>(false,.bad)
def s_z99:List AV→Bool×AV
 | [.dat (.sl .byte) a0 _]=>(qzn a0,(.dat (.sl .byte) (z99 a0) none))
 | _=>(false,.bad)
def s_z54:List AV→Bool×AV
 | [.dat (.pair (.sl .byte) (.pair (.int .i64) (.pair (.sl .byte) .unit))) a0 _]=>(qqS a0,(.dat (.sl .byte) (z54 a0) none))
 | _=>(false,.bad)
def s_z19:List AV→Bool×AV
 | [.dat (.sl .byte) a0 _]=>(quX a0,(.tup [(.dat (.sl (.int .i32)) ((z19 a0).1) none),(.dat .bool ((z19 a0).2) none)]))
 | _=>(false,.bad)
def s_z10:List AV→Bool×AV
 | []=>(true,(.dat .bool z10 none))
 | _=>(false,.bad)
def s_z41:List AV→Bool×AV
 | [.dat (.sl .byte) a0 _]=>(qBo a0,(.dat (.sl (.sl .byte)) (z41 a0) none))
 | _=>(false,.bad)
def s_z81:List AV→Bool×AV
 | [.dat .byte a0 _]=>(true,(.dat .byte (z81 a0) none))
 | _=>(false,.bad)
def s_z42:List AV→Bool×AV
 | [.dat .byte a0 _]=>(true,(.dat (.int .i64) (z42 a0) none))
 | _=>(false,.bad)
def s_z179:List AV→Bool×AV
 | [.dat .str a0 _,.dat .byte a1 _]=>(qCk a0 a1,(.dat .bool (z179 a0 a1) none))
 | _=>(false,.bad)
def s_z128:List AV→Bool×AV
 | [.dat .byte a0 _]=>(true,(.dat (.int .i64) (z128 a0) none))
 | _=>(false,.bad)
def s_z82:List AV→Bool×AV
 | [.dat .byte a0 _,.dat (.int .i64) a1 _]=>(true,(.dat .bool (z82 a0 a1) none))
 | _=>(false,.bad)
def s_z43:List AV→Bool×AV
 | [.dat (.sl .byte) a0 _,.dat (.int .i64) a1 _]=>(qrj a0 a1,(.dat (.int .i64) (z43 a0 a1) none))
 | _=>(false,.bad)
def s_z12:List AV→Bool×AV
 | [.dat (.sl .byte) a0 _]=>(qlS a0,(.tup [(.dat (.pair (.sl .byte) (.pair (.int .i64) (.pair (.sl .byte) .unit))) ((z12 a0).1) none),(.dat (.int .i64) ((z12 a0).2) none)]))
 | _=>(false,.bad)
def s_z92:List AV→Bool×AV
 | [.dat (.int .i64) a0 _]=>(true,(.dat (.sl .str) (z92 a0) (some (2,9))))
 | _=>(false,.bad)
def s_z104:List AV→Bool×AV
 | [.dat (.sl .byte) a0 _]=>(qoT a0,(.dat (.sl .byte) (z104 a0) (some (2,5))))
 | _=>(false,.bad)
def s_z147:List AV→Bool×AV
 | [.dat (.sl .byte) a0 _]=>(qpO a0,(.dat (.sl .byte) (z147 a0) none))
 | _=>(false,.bad)
def s_z105:List AV→Bool×AV
 | [.dat (.sl .byte) a0 _]=>(qoL a0,(.dat (.sl .byte) (z105 a0) none))
 | _=>(false,.bad)
def s_z57:List AV→Bool×AV
 | [.dat (.sl .byte) a0 _]=>(qqQ a0,(.tup [(.dat (.int .i64) ((z57 a0).1) none),(.dat (.int .i64) ((z57 a0).2) none)]))
 | _=>(false,.bad)
def s_z23:List AV→Bool×AV
 | [.dat (.sl .byte) a0 _]=>(qnd a0,(.dat (.int .i64) (z23 a0) none))
 | _=>(false,.bad)
def s_z153:List AV→Bool×AV
 | [.dat .byte a0 _]=>(true,(.dat (.int .i64) (z153 a0) none))
 | _=>(false,.bad)
def s_z193:List AV→Bool×AV
 | [.dat .byte a0 _]=>(true,(.tup [(.dat .byte ((z193 a0).1) none),(.dat .byte ((z193 a0).2) none)]))
 | _=>(false,.bad)
def s_z152:List AV→Bool×AV
 | [.dat (.sl .byte) a0 _]=>(qoI a0,(.dat (.int .i64) (z152 a0) none))
 | _=>(false,.bad)
def s_z111:List AV→Bool×AV
 | [.dat (.sl .byte) a0 _]=>(qoJ a0,(.tup [(.dat (.int .i32) ((z111 a0).1) none),(.dat (.int .i64) ((z111 a0).2.1) none),(.dat (.int .i64) ((z111 a0).2.2) none)]))
 | _=>(false,.bad)
def s_z63:List AV→Bool×AV
 | [.dat (.sl .byte) a0 _]=>(qzi a0,(.tup [(.dat (.sl (.int .i32)) ((z63 a0).1) none),(.dat (.int .i64) ((z63 a0).2.1) none),(.dat (.int .i64) ((z63 a0).2.2) none)]))
 | _=>(false,.bad)
def s_z64:List AV→Bool×AV
 | [.dat .byte a0 _]=>(true,(.dat (.int .i32) (z64 a0) none))
 | _=>(false,.bad)
def s_z65:List AV→Bool×AV
 | [.dat .byte a0 _]=>(true,(.dat (.int .i32) (z65 a0) none))
 | _=>(false,.bad)
def s_z26:List AV→Bool×AV
 | [.dat (.int .i64) a0 _,.dat (.sl .byte) a1 _]=>(qqO a0 a1,(.dat (.sl (.int .i32)) (z26 a0 a1) none))
 | _=>(false,.bad)
def s_z135:List AV→Bool×AV
 | [.dat (.int .i64) a0 _]=>(true,(.dat .byte (z135 a0) none))
 | _=>(false,.bad)
def s_z145:List AV→Bool×AV
 | [.dat .byte a0 _]=>(true,(.tup [(.dat (.int .i64) ((z145 a0).1) none),(.dat .bool ((z145 a0).2) none)]))
 | _=>(false,.bad)
def s_z100:List AV→Bool×AV
 | [.dat (.sl .byte) a0 _]=>(qoP a0,(.tup [(.dat (.sl .byte) ((z100 a0).1) none),(.dat (.int .i64) ((z100 a0).2) none)]))
 | _=>(false,.bad)
def s_z101:List AV→Bool×AV
 | [.dat (.sl .byte) a0 _]=>(qip a0,(.tup [(.dat (.sl (.int .i64)) ((z101 a0).1) none),(.dat .bool ((z101 a0).2) none)]))
 | _=>(false,.bad)
def s_z136:List AV→Bool×AV
 | [.dat (.sl (.int .i64)) a0 _]=>(qeo a0,(.dat (.int .i64) (z136 a0) none))
 | _=>(false,.bad)
def s_z102:List AV→Bool×AV
 | [.dat (.sl (.int .i64)) a0 _]=>(qiq a0,(.tup [(.dat (.sl .byte) ((z102 a0).1) none),(.dat .bool ((z102 a0).2) none)]))
 | _=>(false,.bad)
def s_z55:List AV→Bool×AV
 | [.dat (.sl .byte) a0 _]=>(qzm a0,(.tup [(.dat (.sl .byte) ((z55 a0).1) none),(.dat (.int .i64) ((z55 a0).2) none)]))
 | _=>(false,.bad)
def s_z184:List AV→Bool×AV
 | [.dat (.int .i64) a0 _]=>(qci a0,(.dat .byte (z184 a0) none))
 | _=>(false,.bad)
def s_z146:List AV→Bool×AV
 | [.dat .byte a0 _]=>(true,(.tup [(.dat (.int .i64) ((z146 a0).1) none),(.dat .bool ((z146 a0).2) none)]))
 | _=>(false,.bad)
def s_z103:List AV→Bool×AV
 | [.dat (.sl .byte) a0 _,.dat (.int .i64) a1 _,.dat .byte a2 _]=>(qoG a0 a1 a2,(.tup [(.dat .byte ((z103 a0 a1 a2).1) none),(.dat .bool ((z103 a0 a1 a2).2) none)]))
 | _=>(false,.bad)
def s_z56:List AV→Bool×AV
 | [.dat (.sl .byte) a0 _]=>(qqR a0,(.tup [(.dat (.sl .byte) ((z56 a0).1) none),(.dat (.int .i64) ((z56 a0).2) none)]))
 | _=>(false,.bad)
def s_z20:List AV→Bool×AV
 | [.dat (.sl .byte) a0 _]=>(qzu a0,(.tup [(.dat (.sl (.int .i32)) ((z20 a0).1) none),(.dat .bool ((z20 a0).2) none)]))
 | _=>(false,.bad)
def s_z21:List AV→Bool×AV
 | [.dat (.sl (.int .i32)) a0 _,.dat (.sl (.int .i32)) a1 _]=>(qzv a0 a1,(.dat .bool (z21 a0 a1) none))
 | _=>(false,.bad)
def s_z22:List AV→Bool×AV
 | [.dat (.sl .byte) a0 _]=>(qzt a0,(.dat (.int .i64) (z22 a0) none))
 | _=>(false,.bad)
def s_z228:List AV→Bool×AV
 | [.dat (.sl .byte) a0 _,.dat (.sl .byte) a1 _]=>(qoR a0 a1,(.dat .bool (z228 a0 a1) none))
 | _=>(false,.bad)
def s_z191:List AV→Bool×AV
 | [.dat (.sl .byte) a0 _,.dat (.sl .byte) a1 _]=>(qhf a0 a1,(.dat (.sl .byte) (z191 a0 a1) none))
 | _=>(false,.bad)
def s_z149:List AV→Bool×AV
 | [.dat (.sl .byte) a0 _]=>(qoM a0,(.dat (.sl .byte) (z149 a0) none))
 | _=>(false,.bad)
def s_z108:List AV→Bool×AV
 | [.dat (.sl .byte) a0 _]=>(qoN a0,(.tup [(.dat (.sl .byte) ((z108 a0).1) none),(.dat (.int .i64) ((z108 a0).2) none)]))
 | _=>(false,.bad)
def s_z59:List AV→Bool×AV
 | [.dat (.sl .byte) a0 _]=>(qzk a0,(.dat .bool (z59 a0) none))
 | _=>(false,.bad)
def s_z110:List AV→Bool×AV
 | [.dat (.sl .byte) a0 _]=>(qoQ a0,(.dat (.int .i64) (z110 a0) none))
 | _=>(false,.bad)
def s_z60:List AV→Bool×AV
 | [.dat (.sl .byte) a0 _]=>(qzo a0,(.dat (.int .i64) (z60 a0) none))
 | _=>(false,.bad)
def s_z24:List AV→Bool×AV
 | [.dat (.sl .byte) a0 _]=>(qzr a0,(.dat .bool (z24 a0) none))
 | _=>(false,.bad)
def s_z61:List AV→Bool×AV
 | [.dat (.sl .byte) a0 _]=>(qzj a0,(.tup [(.dat (.sl .byte) ((z61 a0).1) none),(.dat (.int .i64) ((z61 a0).2) none)]))
 | _=>(false,.bad)
def s_z62:List AV→Bool×AV
 | [.dat (.sl .byte) a0 _]=>(qzp a0,(.dat (.int .i64) (z62 a0) none))
 | _=>(false,.bad)
def s_z25:List AV→Bool×AV
 | [.dat (.sl .byte) a0 _]=>(qzs a0,(.dat .bool (z25 a0) none))
 | _=>(false,.bad)
def s_z5:List AV→Bool×AV
 | [.dat (.sl .byte) a0 _]=>(true,(.dat .bool (z5 a0) none))
 | _=>(false,.bad)
theorem qsG:qe G Tryz.prog 241 s_z241:=fun w S hg vals avs r h hS ha=>by
 unfold s_z241 at h
 split at h
 ·simp only [Prod.mk.injEq,true_and] at h
  subst h
  exact qqT Tryz.func241 (by kernel_rfl) (by kernel_rfl) (by kernel_rfl) (by kernel_rfl) hS ha
 ·cases h
theorem qsH:qe G Tryz.prog 151 s_z151:=fun w S hg vals avs r h hS ha=>by
 unfold s_z151 at h
 split at h
 ·simp only [Prod.mk.injEq,true_and] at h
  subst h
  exact qqW hS ha
 ·cases h
theorem qkU:qe G Tryz.prog 125 s_z125:=fun w S hg vals avs r h hS ha=>by
 unfold s_z125 at h
 split at h
 ·obtain ⟨hp,rfl⟩:=Prod.mk.inj h
  unfold qiM at hp
  simp only [Bool.and_eq_true,decide_eq_true_eq] at hp
  obtain ⟨m,hm⟩:=hg
  have hc:w.cell? ⟨0,0,none⟩=some (.int .i64 m):=by
   cases hm 0 (.int .i64) m rfl with
   | adr _ _ ad cs h1 h2 =>
    have e:cs=[.int .i64 m]:=h1
    subst e
    exact ((h2.2 (by simp)).2 0 _ rfl).2
  exact qqU hc hS ha (qh hp.1) (qh hp.2.1) hp.2.2
 ·cases h
theorem qgj:qe G Tryz.prog 38 s_z38:=fun w S hg vals avs r h hS ha=>by
 unfold s_z38 at h
 split at h
 ·obtain ⟨hp,rfl⟩:=Prod.mk.inj h
  exact quZ hS ha (qh hp)
 ·cases h
theorem qsI:qe G Tryz.prog 174 s_z174:=fun w S hg vals avs r h hS ha=>by
 unfold s_z174 at h
 split at h
 ·simp only [Prod.mk.injEq,true_and] at h
  subst h
  exact qqV hS ha
 ·cases h
theorem qsJ:qe G Tryz.prog 173 s_z173:=fun w S hg vals avs r h hS ha=>by
 unfold s_z173 at h
 split at h
 ·simp only [Prod.mk.injEq] at h
  cases h.1
 ·cases h
theorem qsK:qe G Tryz.prog 123 s_z123:=fun w S hg vals avs r h hS ha=>by
 unfold s_z123 at h
 split at h
 ·simp only [Prod.mk.injEq] at h
  cases h.1
 ·cases h
theorem qsL:qe G Tryz.prog 226 s_z226:=fun w S hg vals avs r h hS ha=>by
 unfold s_z226 at h
 split at h
 ·simp only [Prod.mk.injEq] at h
  cases h.1
 ·cases h
theorem qsM:qe G Tryz.prog 227 s_z227:=fun w S hg vals avs r h hS ha=>by
 unfold s_z227 at h
 split at h
 ·simp only [Prod.mk.injEq] at h
  cases h.1
 ·cases h
def qGq:EnvP:=eQ [(151,s_z151)] 8 (some [4]) nC nC nP
def qGr:Code:=cO Tryz.f109
def qJU:Array ResultVar:=Tryz.f109.results
theorem qGs (n:Nat) (b0:LU) (o0:Lab) (c1:UInt8) (o1:Lab):evFnP qGq n qGr qJU [.dat (.sl .byte) b0 o0,.dat .byte c1 o1]=qBG n b0 c1:=by
 kernel_rfl
theorem qkV:qe G Tryz.prog 109 s_z109:=by
 refine sQ (E:=qGq) (c:=qGr) rfl (fun w S hg=>(qa (qsH w S hg) qd)) Tryz.func109 ?_
 intro avs r h
 unfold s_z109 at h
 split at h <;> cases h
 obtain ⟨n,hn⟩:=qzw _ _
 exact ⟨n,_,(qGs n _ _ _ _).trans hn,.inl rfl⟩
def qGt:EnvP:=eQ [] 10 (some [4]) nC nC nP
def qGu:Code:=cO Tryz.f175
def qJV:Array ResultVar:=Tryz.f175.results
theorem qGv (n:Nat) (a0:LU) (o0:Lab) (b1:LU) (o1:Lab):evFnP qGt n qGu qJV [.dat (.sl .byte) a0 o0,.dat (.sl .byte) b1 o1]=qBH n a0 b1:=by
 kernel_rfl
theorem qsN:qe G Tryz.prog 175 s_z175:=by
 refine sQ (E:=qGt) (c:=qGu) rfl (fun w S hg=>qd) Tryz.func175 ?_
 intro avs r h
 unfold s_z175 at h
 split at h <;> cases h
 obtain ⟨n,hn⟩:=qAU _ _
 exact ⟨n,_,(qGv n _ _ _ _).trans hn,.inl rfl⟩
def qjA:EnvP:=eQ [(125,s_z125),(173,s_z173),(174,s_z174)] 35 (some [4]) (fun x=>if x=6 then some [0,1,5] else none) (fun x=>if x=0 then some [4] else if x=1 then some [0,1,5] else none) nP
def qsO:Code:=cO Tryz.f124
def qDd:Array ResultVar:=Tryz.f124.results
theorem qsP (K:Ex→Fr→OA):∀ (n:Nat) (s0:LU) (sep1:LU) (n5:Int),evLP qjA n (sub qsO [1,1,1,1,0,0]) K (frOf [(0,(.dat (.sl .byte) s0 none)),(1,(.dat (.sl .byte) sep1 none)),(5,(.dat (.int .i64) n5 none))])=qix (fun s4=>K .ret (frOf [(4,(.dat (.int .i64) s4 none))])) n s0 sep1 n5:=by
 intro n
 induction n with
 | zero=>intros; rfl
 | succ n IH =>
 intro s0 sep1 n5
 have ih:(fun s0 sep1 n5=>evLP qjA n (sub qsO [1,1,1,1,0,0]) K (frOf [(0,(.dat (.sl .byte) s0 none)),(1,(.dat (.sl .byte) sep1 none)),(5,(.dat (.int .i64) n5 none))]))=qix (fun s4=>K .ret (frOf [(4,(.dat (.int .i64) s4 none))])) n:=by
  funext s0 sep1 n5
  exact IH s0 sep1 n5
 show _=qpd (fun s4=>K .ret (frOf [(4,(.dat (.int .i64) s4 none))])) (qix (fun s4=>K .ret (frOf [(4,(.dat (.int .i64) s4 none))])) n) n s0 sep1 n5
 rw [← ih]
 kernel_rfl
theorem qGw (n:Nat) (s0:LU) (o0:Lab) (sep1:LU) (o1:Lab):evFnP qjA n qsO qDd [.dat (.sl .byte) s0 o0,.dat (.sl .byte) sep1 o1]=qvu n s0 sep1:=by
 unfold qvu
 rw [show qix qhn n=(fun s0 sep1 n5=>evLP qjA n (sub qsO [1,1,1,1,0,0]) (qb 0 (qjA.cutb 0) (kFnP qjA qDd)) (frOf [(0,(.dat (.sl .byte) s0 none)),(1,(.dat (.sl .byte) sep1 none)),(5,(.dat (.int .i64) n5 none))])) from by
  funext s0 sep1 n5
  refine Eq.trans ?_ (qsP (qb 0 (qjA.cutb 0) (kFnP qjA qDd)) n s0 sep1 n5).symm
  all_goals kernel_rfl]
 kernel_rfl
theorem qsQ:qe G Tryz.prog 124 s_z124:=by
 refine sQ (E:=qjA) (c:=qsO) rfl (fun w S hg=>(qa (qkU w S hg) (qa (qsJ w S hg) (qa (qsI w S hg) qd)))) Tryz.func124 ?_
 intro avs r h
 unfold s_z124 at h
 split at h
 ·obtain ⟨hp,rfl⟩:=Prod.mk.inj h
  obtain ⟨n,hn⟩:=qAS _ _ hp
  exact ⟨n,_,(qGw n _ _ _ _).trans hn,.inl rfl⟩
 ·cases h
def E_z78:EnvP:=eQ [(123,s_z123),(124,s_z124),(125,s_z125)] 70 (some [1000008]) (fun x=>if x=11 then some [0,1,2,3,9,10] else none) (fun x=>if x=0 then some [0,9,10] else if x=1 then some [0,1,2,3,9,10] else none) (fun x=>if x=32 then some (.psl 22 (.leaf (.sl .byte))) else none)
def C_z78:Code:=cO Tryz.f78
def R_z78:Array ResultVar:=Tryz.f78.results
theorem qsR (K:Ex→Fr→OA):∀ (n:Nat) (s0:LU) (sep1:LU) (sepSave2:Int) (n3:Int) (a9:List LU) (i10:Int),evLP E_z78 n (sub C_z78 [1,1,1,1,1,1,1,1,0,0,0]) K (frOf [(0,(.dat (.sl .byte) s0 none)),(1,(.dat (.sl .byte) sep1 none)),(2,(.dat (.int .i64) sepSave2 none)),(3,(.dat (.int .i64) n3 none)),(9,(.pv (.psl 22 (.leaf (.sl .byte))) a9 none)),(10,(.dat (.int .i64) i10 none))])=qdr (fun s0 a9 i10=>K (.exit 0) (frOf [(0,(.dat (.sl .byte) s0 none)),(9,(.pv (.psl 22 (.leaf (.sl .byte))) a9 none)),(10,(.dat (.int .i64) i10 none))])) n s0 sep1 sepSave2 n3 a9 i10:=by
 intro n
 induction n with
 | zero=>intros; rfl
 | succ n IH =>
 intro s0 sep1 sepSave2 n3 a9 i10
 have ih:(fun s0 sep1 sepSave2 n3 a9 i10=>evLP E_z78 n (sub C_z78 [1,1,1,1,1,1,1,1,0,0,0]) K (frOf [(0,(.dat (.sl .byte) s0 none)),(1,(.dat (.sl .byte) sep1 none)),(2,(.dat (.int .i64) sepSave2 none)),(3,(.dat (.int .i64) n3 none)),(9,(.pv (.psl 22 (.leaf (.sl .byte))) a9 none)),(10,(.dat (.int .i64) i10 none))]))=qdr (fun s0 a9 i10=>K (.exit 0) (frOf [(0,(.dat (.sl .byte) s0 none)),(9,(.pv (.psl 22 (.leaf (.sl .byte))) a9 none)),(10,(.dat (.int .i64) i10 none))])) n:=by
  funext s0 sep1 sepSave2 n3 a9 i10
  exact IH s0 sep1 sepSave2 n3 a9 i10
 show _=qcL (fun s0 a9 i10=>K (.exit 0) (frOf [(0,(.dat (.sl .byte) s0 none)),(9,(.pv (.psl 22 (.leaf (.sl .byte))) a9 none)),(10,(.dat (.int .i64) i10 none))])) (qdr (fun s0 a9 i10=>K (.exit 0) (frOf [(0,(.dat (.sl .byte) s0 none)),(9,(.pv (.psl 22 (.leaf (.sl .byte))) a9 none)),(10,(.dat (.int .i64) i10 none))])) n) n s0 sep1 sepSave2 n3 a9 i10
 rw [← ih]
 kernel_rfl
theorem qmz (n:Nat) (s0:LU) (a9:List LU) (i10:Int):(qb 0 (E_z78.cutb 0) (kSeq (evCP E_z78 (evLP E_z78 n) (sub C_z78 [1,1,1,1,1,1,1,1,1])) (kFnP E_z78 R_z78))) (.exit 0) (frOf [(0,(.dat (.sl .byte) s0 none)),(9,(.pv (.psl 22 (.leaf (.sl .byte))) a9 none)),(10,(.dat (.int .i64) i10 none))])=qai n s0 a9 i10:=by
 kernel_rfl
theorem qJW (n:Nat) (s0:LU) (o0:Lab) (sep1:LU) (o1:Lab) (sepSave2:Int) (o2:Lab) (n3:Int) (o3:Lab):evFnP E_z78 n C_z78 R_z78 [.dat (.sl .byte) s0 o0,.dat (.sl .byte) sep1 o1,.dat (.int .i64) sepSave2 o2,.dat (.int .i64) n3 o3]=qAl n s0 sep1 sepSave2 n3:=by
 unfold qAl
 rw [show qdr (qai n) n=(fun s0 sep1 sepSave2 n3 a9 i10=>evLP E_z78 n (sub C_z78 [1,1,1,1,1,1,1,1,0,0,0]) (qb 0 (E_z78.cutb 0) (kSeq (evCP E_z78 (evLP E_z78 n) (sub C_z78 [1,1,1,1,1,1,1,1,1])) (kFnP E_z78 R_z78))) (frOf [(0,(.dat (.sl .byte) s0 none)),(1,(.dat (.sl .byte) sep1 none)),(2,(.dat (.int .i64) sepSave2 none)),(3,(.dat (.int .i64) n3 none)),(9,(.pv (.psl 22 (.leaf (.sl .byte))) a9 none)),(10,(.dat (.int .i64) i10 none))])) from by
  funext s0 sep1 sepSave2 n3 a9 i10
  refine Eq.trans ?_ (qsR (qb 0 (E_z78.cutb 0) (kSeq (evCP E_z78 (evLP E_z78 n) (sub C_z78 [1,1,1,1,1,1,1,1,1])) (kFnP E_z78 R_z78))) n s0 sep1 sepSave2 n3 a9 i10).symm
  rw [show (fun s0 a9 i10=>(qb 0 (E_z78.cutb 0) (kSeq (evCP E_z78 (evLP E_z78 n) (sub C_z78 [1,1,1,1,1,1,1,1,1])) (kFnP E_z78 R_z78))) (.exit 0) (frOf [(0,(.dat (.sl .byte) s0 none)),(9,(.pv (.psl 22 (.leaf (.sl .byte))) a9 none)),(10,(.dat (.int .i64) i10 none))]))=(qai n) from by
   funext s0 a9 i10
   exact qmz n s0 a9 i10]
  all_goals kernel_rfl]
 kernel_rfl
theorem qyd:qe G Tryz.prog 78 s_z78:=by
 refine sQ (E:=E_z78) (c:=C_z78) rfl (fun w S hg=>(qa (qsK w S hg) (qa (qsQ w S hg) (qa (qkU w S hg) qd)))) Tryz.func78 ?_
 intro avs r h
 unfold s_z78 at h
 split at h
 ·obtain ⟨hp,rfl⟩:=Prod.mk.inj h
  obtain ⟨n,hn⟩:=qEY _ _ _ _ hp
  exact ⟨n,_,(qJW n _ _ _ _ _ _ _ _).trans hn,.inl rfl⟩
 ·cases h
def E_z37:EnvP:=eQ [(78,s_z78)] 8 (some [4]) nC nC nP
def C_z37:Code:=cO Tryz.f37
def R_z37:Array ResultVar:=Tryz.f37.results
theorem qJX (n:Nat) (s0:LU) (o0:Lab) (sep1:LU) (o1:Lab):evFnP E_z37 n C_z37 R_z37 [.dat (.sl .byte) s0 o0,.dat (.sl .byte) sep1 o1]=qEd n s0 sep1:=by
 kernel_rfl
theorem qye:qe G Tryz.prog 37 s_z37:=by
 refine sQ (E:=E_z37) (c:=C_z37) rfl (fun w S hg=>(qa (qyd w S hg) qd)) Tryz.func37 ?_
 intro avs r h
 unfold s_z37 at h
 split at h
 ·obtain ⟨hp,rfl⟩:=Prod.mk.inj h
  obtain ⟨n,hn⟩:=qEZ _ _ hp
  exact ⟨n,_,(qJX n _ _ _ _).trans hn,.inl rfl⟩
 ·cases h
def qGx:EnvP:=eQ [] 12 (some [2]) nC nC nP
def qGy:Code:=cO Tryz.f126
def qJY:Array ResultVar:=Tryz.f126.results
theorem qGz (n:Nat) (c0:UInt8) (o0:Lab):evFnP qGx n qGy qJY [.dat .byte c0 o0]=qvv n c0:=by
 kernel_rfl
theorem qkW:qe G Tryz.prog 126 s_z126:=by
 refine sQ (E:=qGx) (c:=qGy) rfl (fun w S hg=>qd) Tryz.func126 ?_
 intro avs r h
 unfold s_z126 at h
 split at h <;> cases h
 obtain ⟨n,hn⟩:=qAN _
 exact ⟨n,_,(qGz n _ _).trans hn,.inl rfl⟩
def E_z79:EnvP:=eQ [(38,s_z38),(126,s_z126)] 22 (some [2]) (fun x=>if x=3 then some [3,8,9,10] else none) (fun x=>if x=0 then some [3] else if x=1 then some [3,8,9,10] else none) (fun x=>if x=7 then some (.psl 5 (.leaf .byte)) else none)
def C_z79:Code:=cO Tryz.f79
def R_z79:Array ResultVar:=Tryz.f79.results
theorem qyf (K:Ex→Fr→OA):∀ (n:Nat) (out3:LU) (s9:Int) (s10:Int),evLP E_z79 n (sub C_z79 [1,1,0,1,0,0]) K (frOf [(3,(.pv (.psl 5 (.leaf .byte)) out3 none)),(8,(.pval 3 [])),(9,(.dat (.int .i64) s9 none)),(10,(.dat (.int .i64) s10 none))])=qkc (fun out3=>K (.exit 0) (frOf [(3,(.pv (.psl 5 (.leaf .byte)) out3 none))])) n out3 s9 s10:=by
 intro n
 induction n with
 | zero=>intros; rfl
 | succ n IH =>
 intro out3 s9 s10
 have ih:(fun out3 s9 s10=>evLP E_z79 n (sub C_z79 [1,1,0,1,0,0]) K (frOf [(3,(.pv (.psl 5 (.leaf .byte)) out3 none)),(8,(.pval 3 [])),(9,(.dat (.int .i64) s9 none)),(10,(.dat (.int .i64) s10 none))]))=qkc (fun out3=>K (.exit 0) (frOf [(3,(.pv (.psl 5 (.leaf .byte)) out3 none))])) n:=by
  funext out3 s9 s10
  exact IH out3 s9 s10
 show _=qfi (fun out3=>K (.exit 0) (frOf [(3,(.pv (.psl 5 (.leaf .byte)) out3 none))])) (qkc (fun out3=>K (.exit 0) (frOf [(3,(.pv (.psl 5 (.leaf .byte)) out3 none))])) n) n out3 s9 s10
 rw [← ih]
 kernel_rfl
theorem qqr (n:Nat) (out3:LU):(qb 0 (E_z79.cutb 0) (kSeq (evCP E_z79 (evLP E_z79 n) (sub C_z79 [1,1,1])) (kFnP E_z79 R_z79))) (.exit 0) (frOf [(3,(.pv (.psl 5 (.leaf .byte)) out3 none))])=qho n out3:=by
 kernel_rfl
theorem qJZ (n:Nat) (s0:LU) (o0:Lab):evFnP E_z79 n C_z79 R_z79 [.dat (.sl .byte) s0 o0]=qAm n s0:=by
 unfold qAm
 rw [show qkc (qho n) n=(fun out3 s9 s10=>evLP E_z79 n (sub C_z79 [1,1,0,1,0,0]) (qb 0 (E_z79.cutb 0) (kSeq (evCP E_z79 (evLP E_z79 n) (sub C_z79 [1,1,1])) (kFnP E_z79 R_z79))) (frOf [(3,(.pv (.psl 5 (.leaf .byte)) out3 none)),(8,(.pval 3 [])),(9,(.dat (.int .i64) s9 none)),(10,(.dat (.int .i64) s10 none))])) from by
  funext out3 s9 s10
  refine Eq.trans ?_ (qyf (qb 0 (E_z79.cutb 0) (kSeq (evCP E_z79 (evLP E_z79 n) (sub C_z79 [1,1,1])) (kFnP E_z79 R_z79))) n out3 s9 s10).symm
  rw [show (fun out3=>(qb 0 (E_z79.cutb 0) (kSeq (evCP E_z79 (evLP E_z79 n) (sub C_z79 [1,1,1])) (kFnP E_z79 R_z79))) (.exit 0) (frOf [(3,(.pv (.psl 5 (.leaf .byte)) out3 none))]))=(qho n) from by
   funext out3
   exact qqr n out3]
  all_goals kernel_rfl]
 kernel_rfl
theorem qoq:qe G Tryz.prog 79 s_z79:=by
 refine sQ (E:=E_z79) (c:=C_z79) rfl (fun w S hg=>(qa (qgj w S hg) (qa (qkW w S hg) qd))) Tryz.func79 ?_
 intro avs r h
 unfold s_z79 at h
 split at h
 ·obtain ⟨hp,rfl⟩:=Prod.mk.inj h
  obtain ⟨n,hn⟩:=qES _ hp
  exact ⟨n,_,(qJZ n _ _).trans hn,.inl rfl⟩
 ·cases h
def E_z39:EnvP:=eQ [(79,s_z79)] 10 (some [2]) nC (fun x=>if x=0 then some [] else none) nP
def C_z39:Code:=cO Tryz.f39
def R_z39:Array ResultVar:=Tryz.f39.results
theorem qKa (n:Nat) (s0:LU) (o0:Lab):evFnP E_z39 n C_z39 R_z39 [.dat (.sl .byte) s0 o0]=qEe n s0:=by
 kernel_rfl
theorem qyg:qe G Tryz.prog 39 s_z39:=by
 refine sQ (E:=E_z39) (c:=C_z39) rfl (fun w S hg=>(qa (qoq w S hg) qd)) Tryz.func39 ?_
 intro avs r h
 unfold s_z39 at h
 split at h
 ·obtain ⟨hp,rfl⟩:=Prod.mk.inj h
  obtain ⟨n,hn⟩:=qFa _ hp
  exact ⟨n,_,(qKa n _ _).trans hn,.inl rfl⟩
 ·cases h
def qGA:EnvP:=eQ [] 46 (some [2]) nC (fun x=>if x=0 then some [3] else none) nP
def qGB:Code:=cO Tryz.f214
def qKb:Array ResultVar:=Tryz.f214.results
theorem qGC (n:Nat) (c0:UInt8) (o0:Lab):evFnP qGA n qGB qKb [.dat .byte c0 o0]=qvw n c0:=by
 kernel_rfl
theorem qsS:qe G Tryz.prog 214 s_z214:=by
 refine sQ (E:=qGA) (c:=qGB) rfl (fun w S hg=>qd) Tryz.func214 ?_
 intro avs r h
 unfold s_z214 at h
 split at h <;> cases h
 obtain ⟨n,hn⟩:=qAC _
 exact ⟨n,_,(qGC n _ _).trans hn,.inl rfl⟩
def qGD:EnvP:=eQ [(241,s_z241)] 8 (some [4]) nC nC nP
def qGE:Code:=cO Tryz.f229
def qKc:Array ResultVar:=Tryz.f229.results
theorem qGF (n:Nat) (s0:LU) (o0:Lab) (c1:UInt8) (o1:Lab):evFnP qGD n qGE qKc [.dat .str s0 o0,.dat .byte c1 o1]=qBK n s0 c1:=by
 kernel_rfl
theorem qsT:qe G Tryz.prog 229 s_z229:=by
 refine sQ (E:=qGD) (c:=qGE) rfl (fun w S hg=>(qa (qsG w S hg) qd)) Tryz.func229 ?_
 intro avs r h
 unfold s_z229 at h
 split at h <;> cases h
 obtain ⟨n,hn⟩:=qAD _ _
 exact ⟨n,_,(qGF n _ _ _ _).trans hn,.inl rfl⟩
def qGG:EnvP:=eQ [(229,s_z229)] 8 (some [4]) nC nC nP
def qGH:Code:=cO Tryz.f192
def qKd:Array ResultVar:=Tryz.f192.results
theorem qGI (n:Nat) (s0:LU) (o0:Lab) (c1:UInt8) (o1:Lab):evFnP qGG n qGH qKd [.dat .str s0 o0,.dat .byte c1 o1]=qBL n s0 c1:=by
 kernel_rfl
theorem qkX:qe G Tryz.prog 192 s_z192:=by
 refine sQ (E:=qGG) (c:=qGH) rfl (fun w S hg=>(qa (qsT w S hg) qd)) Tryz.func192 ?_
 intro avs r h
 unfold s_z192 at h
 split at h <;> cases h
 obtain ⟨n,hn⟩:=qAE _ _
 exact ⟨n,_,(qGI n _ _ _ _).trans hn,.inl rfl⟩
def qGJ:EnvP:=eQ [(192,s_z192)] 9 (some [4]) nC nC nP
def qGK:Code:=cO Tryz.f215
def qKe:Array ResultVar:=Tryz.f215.results
theorem qGL (n:Nat) (s0:LU) (o0:Lab) (c1:UInt8) (o1:Lab):evFnP qGJ n qGK qKe [.dat .str s0 o0,.dat .byte c1 o1]=qBM n s0 c1:=by
 kernel_rfl
theorem qsU:qe G Tryz.prog 215 s_z215:=by
 refine sQ (E:=qGJ) (c:=qGK) rfl (fun w S hg=>(qa (qkX w S hg) qd)) Tryz.func215 ?_
 intro avs r h
 unfold s_z215 at h
 split at h <;> cases h
 obtain ⟨n,hn⟩:=qAF _ _
 exact ⟨n,_,(qGL n _ _ _ _).trans hn,.inl rfl⟩
def qGM:EnvP:=eQ [(214,s_z214),(215,s_z215)] 35 (some [2]) nC nC nP
def qGN:Code:=cO Tryz.f180
def qKf:Array ResultVar:=Tryz.f180.results
theorem qGO (n:Nat) (c0:UInt8) (o0:Lab):evFnP qGM n qGN qKf [.dat .byte c0 o0]=qvA n c0:=by
 kernel_rfl
theorem qsV:qe G Tryz.prog 180 s_z180:=by
 refine sQ (E:=qGM) (c:=qGN) rfl (fun w S hg=>(qa (qsS w S hg) (qa (qsU w S hg) qd))) Tryz.func180 ?_
 intro avs r h
 unfold s_z180 at h
 split at h <;> cases h
 obtain ⟨n,hn⟩:=qAG _
 exact ⟨n,_,(qGO n _ _).trans hn,.inl rfl⟩
def qGP:EnvP:=eQ [(180,s_z180)] 10 (some [4]) nC nC nP
def qGQ:Code:=cO Tryz.f129
def qKg:Array ResultVar:=Tryz.f129.results
theorem qGR (n:Nat) (c0:UInt8) (o0:Lab) (kinds1:Int) (o1:Lab):evFnP qGP n qGQ qKg [.dat .byte c0 o0,.dat (.int .i64) kinds1 o1]=qBN n c0 kinds1:=by
 kernel_rfl
theorem qhd:qe G Tryz.prog 129 s_z129:=by
 refine sQ (E:=qGP) (c:=qGQ) rfl (fun w S hg=>(qa (qsV w S hg) qd)) Tryz.func129 ?_
 intro avs r h
 unfold s_z129 at h
 split at h <;> cases h
 obtain ⟨n,hn⟩:=qAH _ _
 exact ⟨n,_,(qGR n _ _ _ _).trans hn,.inl rfl⟩
def qbk:EnvP:=eQ [(129,s_z129)] 21 (some [4]) (fun x=>if x=3 then some [1,5,8,9,10] else none) (fun x=>if x=0 then some [5] else if x=1 then some [1,5,8,9,10] else none) nP
def qjB:Code:=cO Tryz.f127
def qsW:Array ResultVar:=Tryz.f127.results
theorem qsX (K:Ex→Fr→OA):∀ (n:Nat) (kinds1:Int) (n5:Int) (s8:LU) (s9:Int) (s10:Int),evLP qbk n (sub qjB [1,1,0,1,0,0]) K (frOf [(1,(.dat (.int .i64) kinds1 none)),(5,(.dat (.int .i64) n5 none)),(8,(.dat (.sl .byte) s8 none)),(9,(.dat (.int .i64) s9 none)),(10,(.dat (.int .i64) s10 none))])=qep (fun n5=>K (.exit 0) (frOf [(5,(.dat (.int .i64) n5 none))])) n kinds1 n5 s8 s9 s10:=by
 intro n
 induction n with
 | zero=>intros; rfl
 | succ n IH =>
 intro kinds1 n5 s8 s9 s10
 have ih:(fun kinds1 n5 s8 s9 s10=>evLP qbk n (sub qjB [1,1,0,1,0,0]) K (frOf [(1,(.dat (.int .i64) kinds1 none)),(5,(.dat (.int .i64) n5 none)),(8,(.dat (.sl .byte) s8 none)),(9,(.dat (.int .i64) s9 none)),(10,(.dat (.int .i64) s10 none))]))=qep (fun n5=>K (.exit 0) (frOf [(5,(.dat (.int .i64) n5 none))])) n:=by
  funext kinds1 n5 s8 s9 s10
  exact IH kinds1 n5 s8 s9 s10
 show _=qcM (fun n5=>K (.exit 0) (frOf [(5,(.dat (.int .i64) n5 none))])) (qep (fun n5=>K (.exit 0) (frOf [(5,(.dat (.int .i64) n5 none))])) n) n kinds1 n5 s8 s9 s10
 rw [← ih]
 kernel_rfl
theorem qmA (n:Nat) (n5:Int):(qb 0 (qbk.cutb 0) (kSeq (evCP qbk (evLP qbk n) (sub qjB [1,1,1])) (kFnP qbk qsW))) (.exit 0) (frOf [(5,(.dat (.int .i64) n5 none))])=qeq n n5:=by
 kernel_rfl
theorem qGS (n:Nat) (s0:LU) (o0:Lab) (kinds1:Int) (o1:Lab):evFnP qbk n qjB qsW [.dat (.sl .byte) s0 o0,.dat (.int .i64) kinds1 o1]=qpe n s0 kinds1:=by
 unfold qpe
 rw [show qep (qeq n) n=(fun kinds1 n5 s8 s9 s10=>evLP qbk n (sub qjB [1,1,0,1,0,0]) (qb 0 (qbk.cutb 0) (kSeq (evCP qbk (evLP qbk n) (sub qjB [1,1,1])) (kFnP qbk qsW))) (frOf [(1,(.dat (.int .i64) kinds1 none)),(5,(.dat (.int .i64) n5 none)),(8,(.dat (.sl .byte) s8 none)),(9,(.dat (.int .i64) s9 none)),(10,(.dat (.int .i64) s10 none))])) from by
  funext kinds1 n5 s8 s9 s10
  refine Eq.trans ?_ (qsX (qb 0 (qbk.cutb 0) (kSeq (evCP qbk (evLP qbk n) (sub qjB [1,1,1])) (kFnP qbk qsW))) n kinds1 n5 s8 s9 s10).symm
  rw [show (fun n5=>(qb 0 (qbk.cutb 0) (kSeq (evCP qbk (evLP qbk n) (sub qjB [1,1,1])) (kFnP qbk qsW))) (.exit 0) (frOf [(5,(.dat (.int .i64) n5 none))]))=(qeq n) from by
   funext n5
   exact qmA n n5]
  all_goals kernel_rfl]
 kernel_rfl
theorem qsY:qe G Tryz.prog 127 s_z127:=by
 refine sQ (E:=qbk) (c:=qjB) rfl (fun w S hg=>(qa (qhd w S hg) qd)) Tryz.func127 ?_
 intro avs r h
 unfold s_z127 at h
 split at h
 ·obtain ⟨hp,rfl⟩:=Prod.mk.inj h
  obtain ⟨n,hn⟩:=qAO _ _ hp
  exact ⟨n,_,(qGS n _ _ _ _).trans hn,.inl rfl⟩
 ·cases h
end
end Go.Av
