import Derived.Test.YtmdadpepccbpcaaGreatDoorPoQ
import Derived.Test.YtmdadpepccbpcaaGreatDoorPoD
import Derived.Test.YtmdadpepccbpcaaGreatDoorAvE
import Derived.Test.YtmdadpepccbpcaaGreatDoorProg
import Derived.KernelRfl
namespace Go.Av
set_option linter.unusedSimpArgs false
set_option linter.unusedVariables false
section
noncomputable section
open Go.Proofs
set_option maxRecDepth 100000
set_option linter.unusedVariables false
def tis:List (TypeId×TI):=[(2,⟨some (.int .i64),8,0⟩),
 (3,⟨some (.int .i64),8,0⟩),
 (4,⟨some .bool,1,0⟩),
 (5,⟨some .byte,1,0⟩),
 (6,⟨some .byte,1,0⟩),
 (7,⟨some (.pair (.int .i64) (.pair (.int .i64) (.pair .bool (.pair .byte .unit)))),24,0⟩),
 (8,⟨some (.pair (.int .i64) (.pair (.int .i64) (.pair .bool (.pair .byte .unit)))),24,0⟩),
 (9,⟨some .str,16,0⟩),
 (10,⟨some .str,16,0⟩),
 (11,⟨some .str,16,0⟩),
 (12,⟨some (.int .u64),8,0⟩),
 (13,⟨some (.pair .str (.pair (.int .u64) .unit)),24,0⟩),
 (14,⟨some (.pair .str (.pair (.int .u64) .unit)),24,0⟩),
 (21,⟨some (.int .i32),4,0⟩),
 (22,⟨some (.sl (.int .i32)),24,21⟩),
 (24,⟨some (.sl .byte),24,5⟩),
 (25,⟨some (.int .i64),8,0⟩),
 (34,⟨some (.pair (.int .i64) (.pair (.int .i64) .unit)),16,0⟩),
 (35,⟨some (.pair (.int .i64) (.pair (.int .i64) .unit)),16,0⟩),
 (46,⟨some (.arr 2 (.sl .byte)),48,24⟩),
 (81,⟨some (.sl (.sl .byte)),24,24⟩),
 (90,⟨some (.sl (.int .i64)),24,3⟩),
 (101,⟨some (.sl .str),24,9⟩),
 (107,⟨some (.int .u64),8,0⟩),
 (117,⟨some (.pair (.sl .byte) (.pair (.int .i64) .unit)),32,0⟩),
 (118,⟨some (.pair (.sl .byte) (.pair (.int .i64) .unit)),32,0⟩),
 (137,⟨some (.int .u32),4,0⟩),
 (139,⟨some (.int .u64),8,0⟩),
 (143,⟨some (.arr 256 .bool),256,4⟩),
 (144,⟨some (.arr 256 .bool),256,4⟩),
 (151,⟨some (.pair .byte (.pair (.int .i32) .unit)),8,0⟩),
 (152,⟨some (.pair .byte (.pair (.int .i32) .unit)),8,0⟩),
 (153,⟨some (.arr 8 (.pair .byte (.pair (.int .i32) .unit))),64,152⟩),
 (167,⟨some (.arr 32 .byte),32,5⟩),
 (168,⟨some (.arr 64 .byte),64,5⟩),
 (169,⟨some (.arr 4 .byte),4,5⟩),
 (170,⟨some (.arr 32 (.int .i32)),128,21⟩),
 (184,⟨some (.arr 256 .byte),256,5⟩),
 (185,⟨some (.pair .byte (.pair .byte .unit)),2,0⟩),
 (186,⟨some (.pair .byte (.pair .byte .unit)),2,0⟩),
 (187,⟨some (.arr 16 (.pair .byte (.pair .byte .unit))),32,186⟩),
 (199,⟨some .byte,1,0⟩),
 (200,⟨some .byte,1,0⟩),
 (203,⟨some (.int .i32),4,0⟩),
 (204,⟨some (.int .i32),4,0⟩)]
theorem qZ:(tis.all fun p=>tyB Tryz.prog (tiOf tis) p.1)=true:=by kernel_rfl
theorem follows:Tryz.prog.follows .mixedOrders=true:=by kernel_rfl
abbrev FnL:=List (FuncId×(List AV→Bool×AV))
abbrev CutL:=Nat→Option (List Nat)
def eQ (l:FnL) (nt:Nat) (r:Option (List Nat)) (a b:CutL) (p:Nat→Option PSh):EnvP:=⟨⟨tiOf tis,fnsOf l,cnsOf [],[],nt,a,b,r⟩,p,fun _=>none,fun _=>[],fun _=>none,fun _=>none,fun _=>none,fun _=>none⟩
def cO (f:Func):Code:=f.body.getD .skip
def nC:CutL:=fun _=>none
def nP:Nat→Option PSh:=fun _=>none
theorem sQ {E:EnvP} {l:FnL} {nt:Nat} {r:Option (List Nat)} {a b:CutL} {p:Nat→Option PSh} {f:FuncId} {fn:Func} {c:Code} {spec:List AV→Bool×AV} (hE:E=eQ l nt r a b p) (hl:∀ w S,G w S→∀ f,qbc Tryz.prog f (fnsOf l f) w S)
 (hf:Tryz.prog.funcs[f]? = some fn) (hspec:∀ avs r',spec avs=(true,r')→∃ n v,evFnP E n c fn.results avs=some v∧(v=r'∨v.strip=r')) (hb:fn.body=some c:=by kernel_rfl) (hnt:fn.ntmps=nt:=by kernel_rfl) (hname:(fn.name == "runtime.NumGoroutine")=false:=by kernel_rfl):qe G Tryz.prog f spec:=by
 subst hE;exact qav G_stays (E:=eQ l nt r a b p) (qd rfl qZ) (fun w S hg=>⟨⟨hl w S hg,fun f sp h=>qx f sp h w S⟩,qy w S hg,(fun _ _ h=>by cases h),(fun f sp h=>qC f sp h),(fun f it h=>qD f it h),(fun t kt vt h=>qz t kt vt h)⟩) follows hf hb hnt hname hspec
def s_z164:List AV→Bool×AV
 | [df a0 _,dn a1 _]=>(true,(de (z164 a0 a1) none))
 | _=>(false,.bad)
def s_z141:List AV→Bool×AV
 | [db a0 _,dn a1 _]=>(true,(de (z141 a0 a1) none))
 | _=>(false,.bad)
def s_z80:List AV→Bool×AV
 | [db a0 _,dn a1 _]=>(true,(de (z80 a0 a1) none))
 | _=>(false,.bad)
def s_z169:List AV→Bool×AV
 | [db a0 _]=>(qmm a0,(.tup [(di ((z169 a0).1) none),(de ((z169 a0).2) none)]))
 | _=>(false,.bad)
def s_z165:List AV→Bool×AV
 | [db a0 _,di a1 _]=>(quI a0 a1,(de (z165 a0 a1) none))
 | _=>(false,.bad)
def s_z166:List AV→Bool×AV
 | [de a0 _]=>(true,(dh (z166 a0) none))
 | _=>(false,.bad)
def s_z167:List AV→Bool×AV
 | [df a0 _]=>(qjh a0,(.tup [(.dat (.arr 256 .bool) ((z167 a0).1) none),(dh ((z167 a0).2) none)]))
 | _=>(false,.bad)
def s_z168:List AV→Bool×AV
 | [.adr (.arr 256 .bool) a0,dn a1 _]=>(true,(dh (z168 a0 a1) none))
 | _=>(false,.bad)
def s_z109:List AV→Bool×AV
 | [db a0 _,df a1 _]=>(qji a0 a1,(de (z109 a0 a1) none))
 | _=>(false,.bad)
def s_z194:List AV→Bool×AV
 | [db a0 _,db a1 _]=>(true,(dh (z194 a0 a1) none))
 | _=>(false,.bad)
def s_z171:List AV→Bool×AV
 | [db a0 _,db a1 _]=>(true,(dh (z171 a0 a1) none))
 | _=>(false,.bad)
def s_z110:List AV→Bool×AV
 | [db a0 _]=>(true,(de (z110 a0) none))
 | _=>(false,.bad)
def s_z108:List AV→Bool×AV
 | [.abs s V x,.pbox (.leaf (.sl .byte)) b0 none]=>((z108 (fun x a0 a1=>V.spec x [⟨(.sl .byte),a0⟩,⟨(.sl .byte),a1⟩]) x b0).1,.tup [.tup [],.abs s V (z108 (fun x a0 a1=>V.spec x [⟨(.sl .byte),a0⟩,⟨(.sl .byte),a1⟩]) x b0).2.1,.pbox (.leaf (.sl .byte)) ((z108 (fun x a0 a1=>V.spec x [⟨(.sl .byte),a0⟩,⟨(.sl .byte),a1⟩]) x b0).2.2) none])
 | _=>(false,.bad)
def qDw:Iter:=⟨[.leaf (.sl .byte)],fun s spec x y=>((z108 (fun x a0 a1=>spec x [⟨(.sl .byte),a0⟩,⟨(.sl .byte),a1⟩]) x y.1).1,(z108 (fun x a0 a1=>spec x [⟨(.sl .byte),a0⟩,⟨(.sl .byte),a1⟩]) x y.1).2.1)⟩
def s_z52:List AV→Bool×AV
 | [db a0 _]=>(true,(.abs (qdX [.leaf (.sl .byte)]) (clInv 108 [.leaf (.sl .byte)]) (a0,())))
 | _=>(false,.bad)
def s_z210:List AV→Bool×AV
 | [db a0 _,df a1 _]=>(qHI a0 a1,(db (z210 a0 a1) none))
 | _=>(false,.bad)
def s_z228:List AV→Bool×AV
 | [dn a0 _]=>(true,(de (z228 a0) none))
 | _=>(false,.bad)
def s_z236:List AV→Bool×AV
 | [df a0 _,dn a1 _]=>(true,(de (z236 a0 a1) none))
 | _=>(false,.bad)
def s_z216:List AV→Bool×AV
 | [df a0 _,dn a1 _]=>(true,(de (z216 a0 a1) none))
 | _=>(false,.bad)
def s_z229:List AV→Bool×AV
 | [df a0 _,dn a1 _]=>(true,(dh (z229 a0 a1) none))
 | _=>(false,.bad)
def s_z198:List AV→Bool×AV
 | [dn a0 _]=>(true,(de (z198 a0) none))
 | _=>(false,.bad)
def s_z144:List AV→Bool×AV
 | [dn a0 _,de a1 _]=>(true,(dh (z144 a0 a1) none))
 | _=>(false,.bad)
abbrev s_z28:List AV→Bool×AV:=vac
theorem qAb:qe G Tryz.prog 28 s_z28:=vacG
def s_z176:List AV→Bool×AV
 | []=>(true,(.dat (.arr 8 (.pair .byte (.pair (.int .i32) .unit))) z176 none))
 | _=>(false,.bad)
abbrev s_z56:List AV→Bool×AV:=vac
theorem qAc:qe G Tryz.prog 56 s_z56:=vacG
def s_z177:List AV→Bool×AV
 | []=>(true,(.dat (.sl (.int .i32)) z177 none))
 | _=>(false,.bad)
abbrev s_z57:List AV→Bool×AV:=vac
theorem qAd:qe G Tryz.prog 57 s_z57:=vacG
def s_z185:List AV→Bool×AV
 | [de a0 _]=>(true,(dn (z185 a0) none))
 | _=>(false,.bad)
abbrev s_z58:List AV→Bool×AV:=vac
theorem qAe:qe G Tryz.prog 58 s_z58:=vacG
def s_z78:List AV→Bool×AV
 | [dn a0 _]=>(true,(dh (z78 a0) none))
 | _=>(false,.bad)
def s_z143:List AV→Bool×AV
 | [db a0 _,db a1 _]=>(qhD a0 a1,(de (z143 a0 a1) none))
 | _=>(false,.bad)
def s_z192:List AV→Bool×AV
 | [db a0 _]=>(qDu a0,(de (z192 a0) none))
 | _=>(false,.bad)
def s_z193:List AV→Bool×AV
 | [db a0 _,dn a1 _]=>(true,(de (z193 a0 a1) none))
 | _=>(false,.bad)
def s_z139:List AV→Bool×AV
 | [db a0 _,db a1 _]=>(qeB a0 a1,(de (z139 a0 a1) none))
 | _=>(false,.bad)
def s_z140:List AV→Bool×AV
 | [dn a0 _,.pbox (.leaf (.sl .byte)) a1 none]=>((qjj a0 a1),.tup [(de ((z140 a0 a1).1) none),.bad,(.pbox (.leaf (.sl .byte)) ((z140 a0 a1).2) none)])
 | _=>(false,.bad)
def s_z79:List AV→Bool×AV
 | [db a0 _]=>(qBl a0,(de (z79 a0) none))
 | _=>(false,.bad)
def s_z82:List AV→Bool×AV
 | [db a0 _,db a1 _]=>(qsj a0 a1,(.tup [(db ((z82 a0 a1).1) none),(db ((z82 a0 a1).2.1) none),(dh ((z82 a0 a1).2.2) none)]))
 | _=>(false,.bad)
def s_z153:List AV→Bool×AV
 | [db a0 _]=>(qdM a0,(db (z153 a0) (some (0,5))))
 | _=>(false,.bad)
def s_z142:List AV→Bool×AV
 | [db a0 _]=>(qqP a0,(.dat (.sl (.sl .byte)) (z142 a0) (some (2,24))))
 | _=>(false,.bad)
def s_z81:List AV→Bool×AV
 | [db a0 _]=>(qBn a0,(de (z81 a0) none))
 | _=>(false,.bad)
def s_z37:List AV→Bool×AV
 | [db a0 _,de a1 _]=>(qsZ a0 a1,(de (z37 a0 a1) none))
 | _=>(false,.bad)
def s_z60:List AV→Bool×AV
 | [db a0 _]=>(qBq a0,(.tup [(db ((z60 a0).1) none),(de ((z60 a0).2) none)]))
 | _=>(false,.bad)
def s_z121:List AV→Bool×AV
 | [.pbox (.ppair (.osl 5 .byte) (.ppair (.leaf (.int .i64)) (.leaf .unit))) a0 none,dh a1 _]=>((qeD a0 a1),.tup [(.tup []),(.pbox (.ppair (.osl 5 .byte) (.ppair (.leaf (.int .i64)) (.leaf .unit))) (z121 a0 a1) none),.bad])
 | _=>(false,.bad)
def s_z119:List AV→Bool×AV
 | [.pbox (.ppair (.osl 5 .byte) (.ppair (.leaf (.int .i64)) (.leaf .unit))) a0 none,db a1 _]=>((qjk a0 a1),.tup [(.tup []),(.pbox (.ppair (.osl 5 .byte) (.ppair (.leaf (.int .i64)) (.leaf .unit))) (z119 a0 a1) none),.bad])
 | _=>(false,.bad)
def s_z120:List AV→Bool×AV
 | [db a0 _,de a1 _]=>(qhW a0 a1,(de (z120 a0 a1) none))
 | _=>(false,.bad)
def s_z239:List AV→Bool×AV
 | [de a0 _]=>(qdJ a0,(dn (z239 a0) none))
 | _=>(false,.bad)
def s_z219:List AV→Bool×AV
 | [dn a0 _]=>(true,(db (z219 a0) (some (2,5))))
 | _=>(false,.bad)
def s_z179:List AV→Bool×AV
 | [db a0 _,dn a1 _,dn a2 _]=>(qqa a0 a1 a2,(db (z179 a0 a1 a2) (some (6,5))))
 | _=>(false,.bad)
def s_z122:List AV→Bool×AV
 | [dn a0 _,dh a1 _]=>(true,(db (z122 a0 a1) (some (4,5))))
 | _=>(false,.bad)
def s_z62:List AV→Bool×AV
 | [db a0 _]=>(qBB a0,(db (z62 a0) none))
 | _=>(false,.bad)
def s_z61:List AV→Bool×AV
 | [db a0 _]=>(qBr a0,(.tup [(db ((z61 a0).1) none),(de ((z61 a0).2) none)]))
 | _=>(false,.bad)
def s_z222:List AV→Bool×AV
 | [de a0 _]=>(true,(dn (z222 a0) none))
 | _=>(false,.bad)
def s_z182:List AV→Bool×AV
 | [db a0 _]=>(qDt a0,(db (z182 a0) (some (2,5))))
 | _=>(false,.bad)
def s_z123:List AV→Bool×AV
 | [db a0 _]=>(quH a0,(db (z123 a0) none))
 | _=>(false,.bad)
def s_z64:List AV→Bool×AV
 | [db a0 _]=>(qsY a0,(db (z64 a0) (some (2,5))))
 | _=>(false,.bad)
def s_z63:List AV→Bool×AV
 | [db a0 _]=>(qBs a0,(.tup [(db ((z63 a0).1) none),(de ((z63 a0).2) none)]))
 | _=>(false,.bad)
def s_z30:List AV→Bool×AV
 | [de a0 _]=>(true,z30 a0)
 | _=>(false,.bad)
def s_z65:List AV→Bool×AV
 | [de a0 _]=>(true,(de (z65 a0) none))
 | _=>(false,.bad)
def s_z158:List AV→Bool×AV
 | [di a0 _]=>(true,(dh (z158 a0) none))
 | _=>(false,.bad)
def s_z127:List AV→Bool×AV
 | [di a0 _]=>(true,(.tup [(dn ((z127 a0).1) none),(dh ((z127 a0).2) none)]))
 | _=>(false,.bad)
def s_z159:List AV→Bool×AV
 | [di a0 _]=>(true,(dh (z159 a0) none))
 | _=>(false,.bad)
def s_z186:List AV→Bool×AV
 | [.dat (.sl (.int .i32)) a0 _,di a1 _]=>(qqc a0 a1,(de (z186 a0 a1) none))
 | _=>(false,.bad)
def s_z129:List AV→Bool×AV
 | [di a0 _]=>(true,(.tup [(dn ((z129 a0).1) none),(dh ((z129 a0).2) none)]))
 | _=>(false,.bad)
def s_z160:List AV→Bool×AV
 | [di a0 _]=>(true,(dh (z160 a0) none))
 | _=>(false,.bad)
def s_z211:List AV→Bool×AV
 | [di a0 _]=>(true,(dh (z211 a0) none))
 | _=>(false,.bad)
def s_z161:List AV→Bool×AV
 | [di a0 _]=>(true,(dh (z161 a0) none))
 | _=>(false,.bad)
def s_z105:List AV→Bool×AV
 | [de a0 _,di a1 _]=>(true,(dh (z105 a0 a1) none))
 | _=>(false,.bad)
def s_z124:List AV→Bool×AV
 | [de a0 _,.dat (.sl (.int .i32)) a1 _]=>(qqj a0 a1,(de (z124 a0 a1) none))
 | _=>(false,.bad)
def s_z66:List AV→Bool×AV
 | [de a0 _,.dat (.sl (.int .i32)) a1 _]=>(qzM a0 a1,(dh (z66 a0 a1) none))
 | _=>(false,.bad)
def s_z224:List AV→Bool×AV
 | [di a0 _]=>(true,(dh (z224 a0) none))
 | _=>(false,.bad)
def s_z223:List AV→Bool×AV
 | [.dat (.sl (.int .i32)) a0 _,.fn 224 []]=>(qqd a0,(de (z223 a0) none))
 | _=>(false,.bad)
def s_z183:List AV→Bool×AV
 | [.dat (.sl (.int .i32)) a0 _]=>(qqe a0,(de (z183 a0) none))
 | _=>(false,.bad)
def s_z125:List AV→Bool×AV
 | [.dat (.sl (.int .i32)) a0 _]=>(qqf a0,(dh (z125 a0) none))
 | _=>(false,.bad)
def s_z184:List AV→Bool×AV
 | [di a0 _]=>(true,(de (z184 a0) none))
 | _=>(false,.bad)
def s_z126:List AV→Bool×AV
 | [db a0 _,di a1 _]=>(qqg a0 a1,(.tup [(db ((z126 a0 a1).1) none),(de ((z126 a0 a1).2) none)]))
 | _=>(false,.bad)
def s_z67:List AV→Bool×AV
 | [.dat (.sl (.int .i32)) a0 _]=>(qzL a0,(.tup [(db ((z67 a0).1) none),(de ((z67 a0).2) none)]))
 | _=>(false,.bad)
def s_z68:List AV→Bool×AV
 | [.dat (.sl (.int .i32)) a0 _]=>(qzJ a0,(.tup [(db ((z68 a0).1) none),(de ((z68 a0).2) none)]))
 | _=>(false,.bad)
def s_z128:List AV→Bool×AV
 | [.dat (.sl (.int .i32)) a0 _]=>(qqh a0,(de (z128 a0) none))
 | _=>(false,.bad)
def s_z69:List AV→Bool×AV
 | [.dat (.sl (.int .i32)) a0 _]=>(qzK a0,(.tup [(db ((z69 a0).1) none),(de ((z69 a0).2) none)]))
 | _=>(false,.bad)
def s_z130:List AV→Bool×AV
 | [.dat (.sl (.int .i32)) a0 _]=>(qqi a0,(de (z130 a0) none))
 | _=>(false,.bad)
def s_z70:List AV→Bool×AV
 | [.dat (.sl (.int .i32)) a0 _]=>(qzI a0,(.tup [(db ((z70 a0).1) none),(de ((z70 a0).2) none)]))
 | _=>(false,.bad)
def s_z31:List AV→Bool×AV
 | [de a0 _,.dat (.sl (.int .i32)) a1 _]=>(qsh a0 a1,(.tup [(db ((z31 a0 a1).1) none),(de ((z31 a0 a1).2) none)]))
 | _=>(false,.bad)
def s_z13:List AV→Bool×AV
 | [de a0 _,de a1 _,.dat (.sl (.int .i32)) a2 _]=>(qoN a0 a1 a2,(.tup [(db ((z13 a0 a1 a2).1) none),(de ((z13 a0 a1 a2).2) none)]))
 | _=>(false,.bad)
def s_z163:List AV→Bool×AV
 | [.dat (.int .u64) a0 _]=>(qHD a0,(de (z163 a0) none))
 | _=>(false,.bad)
def s_z11:List AV→Bool×AV
 | [.dat (.sl (.int .i32)) a0 _,.dat (.sl (.int .i32)) a1 _]=>(qzO a0 a1,(dh (z11 a0 a1) none))
 | _=>(false,.bad)
def s_z7:List AV→Bool×AV
 | []=>(true,(dg z7))
 | _=>(false,.bad)
def s_z10:List AV→Bool×AV
 | [db a0 _,db a1 _]=>(qzP a0 a1,(dh (z10 a0 a1) none))
 | _=>(false,.bad)
def s_z77:List AV→Bool×AV
 | [di a0 _]=>(true,(dh (z77 a0) none))
 | _=>(false,.bad)
def s_z36:List AV→Bool×AV
 | [di a0 _]=>(true,(dh (z36 a0) none))
 | _=>(false,.bad)
def s_z187:List AV→Bool×AV
 | [dn a0 _]=>(true,(di (z187 a0) none))
 | _=>(false,.bad)
def s_z132:List AV→Bool×AV
 | [di a0 _]=>(true,(.tup [(dn ((z132 a0).1) none),(dh ((z132 a0).2) none)]))
 | _=>(false,.bad)
def s_z90:List AV→Bool×AV
 | [dn a0 _]=>(true,(di (z90 a0) none))
 | _=>(false,.bad)
def s_z133:List AV→Bool×AV
 | [di a0 _]=>(true,(.tup [(dn ((z133 a0).1) none),(dh ((z133 a0).2) none)]))
 | _=>(false,.bad)
def s_z91:List AV→Bool×AV
 | [dn a0 _]=>(true,(di (z91 a0) none))
 | _=>(false,.bad)
def s_z134:List AV→Bool×AV
 | [di a0 _]=>(true,(.tup [(dn ((z134 a0).1) none),(dh ((z134 a0).2) none)]))
 | _=>(false,.bad)
def s_z131:List AV→Bool×AV
 | [de a0 _,di a1 _]=>(true,(dh (z131 a0 a1) none))
 | _=>(false,.bad)
def s_z135:List AV→Bool×AV
 | [di a0 _]=>(true,(db (z135 a0) (some (2,5))))
 | _=>(false,.bad)
def s_z71:List AV→Bool×AV
 | [de a0 _,di a1 _]=>(true,(db (z71 a0 a1) (some (4,5))))
 | _=>(false,.bad)
def s_z32:List AV→Bool×AV
 | [de a0 _,.dat (.sl (.int .i32)) a1 _]=>(qzN a0 a1,(.tup [(db ((z32 a0 a1).1) none),(de ((z32 a0 a1).2) none)]))
 | _=>(false,.bad)
def s_z72:List AV→Bool×AV
 | [db a0 _]=>(qBA a0,(db (z72 a0) (some (2,5))))
 | _=>(false,.bad)
def s_z225:List AV→Bool×AV
 | [df a0 _,dn a1 _]=>(qDv a0 a1,(dh (z225 a0 a1) none))
 | _=>(false,.bad)
def s_z188:List AV→Bool×AV
 | [dn a0 _]=>(true,(de (z188 a0) none))
 | _=>(false,.bad)
def s_z136:List AV→Bool×AV
 | [dn a0 _,de a1 _]=>(true,(dh (z136 a0 a1) none))
 | _=>(false,.bad)
def s_z189:List AV→Bool×AV
 | [de a0 _]=>(qdK a0,(dn (z189 a0) none))
 | _=>(false,.bad)
def s_z137:List AV→Bool×AV
 | [db a0 _,dn a1 _,dn a2 _]=>(qqb a0 a1 a2,(db (z137 a0 a1 a2) (some (6,5))))
 | _=>(false,.bad)
def s_z73:List AV→Bool×AV
 | [dn a0 _,dh a1 _]=>(true,(db (z73 a0 a1) (some (4,5))))
 | _=>(false,.bad)
def s_z33:List AV→Bool×AV
 | [db a0 _]=>(qBC a0,(db (z33 a0) (some (2,5))))
 | _=>(false,.bad)
def s_z151:List AV→Bool×AV
 | [.dat (.sl (.int .i64)) a0 _]=>(qjg a0,(de (z151 a0) none))
 | _=>(false,.bad)
def s_z190:List AV→Bool×AV
 | [db a0 _]=>(qmj a0,(.dat (.sl (.int .i64)) (z190 a0) (some (2,3))))
 | _=>(false,.bad)
def s_z191:List AV→Bool×AV
 | [de a0 _]=>(true,(dn (z191 a0) none))
 | _=>(false,.bad)
def s_z138:List AV→Bool×AV
 | [db a0 _]=>(qmk a0,(db (z138 a0) (some (2,5))))
 | _=>(false,.bad)
def s_z74:List AV→Bool×AV
 | [db a0 _]=>(qsi a0,(db (z74 a0) (some (2,5))))
 | _=>(false,.bad)
def s_z34:List AV→Bool×AV
 | [db a0 _]=>(qwY a0,(db (z34 a0) (some (2,5))))
 | _=>(false,.bad)
def s_z75:List AV→Bool×AV
 | [db a0 _]=>(qBm a0,(de (z75 a0) none))
 | _=>(false,.bad)
def s_z102:List AV→Bool×AV
 | [db a0 _]=>(qql a0,(.tup [(.dat (.sl (.sl .byte)) ((z102 a0).1) none),(dh ((z102 a0).2) none)]))
 | _=>(false,.bad)
def s_z76:List AV→Bool×AV
 | [db a0 _]=>(qzR a0,(.dat (.sl (.sl .byte)) (z76 a0) none))
 | _=>(false,.bad)
def s_z35:List AV→Bool×AV
 | [db a0 _,de a1 _]=>(qta a0 a1,(de (z35 a0 a1) none))
 | _=>(false,.bad)
def s_z14:List AV→Bool×AV
 | [de a0 _,de a1 _,.dat (.sl (.int .i32)) a2 _]=>(qtb a0 a1 a2,(.tup [(db ((z14 a0 a1 a2).1) none),(de ((z14 a0 a1 a2).2) none)]))
 | _=>(false,.bad)
def s_z15:List AV→Bool×AV
 | [de a0 _,de a1 _,.dat (.sl (.int .i32)) a2 _]=>(qBt a0 a1 a2,(dh (z15 a0 a1 a2) none))
 | _=>(false,.bad)
def s_z16:List AV→Bool×AV
 | [.dat (.sl (.int .i32)) a0 _]=>(qBo a0,(.dat (.sl (.int .i32)) (z16 a0) (some (2,21))))
 | _=>(false,.bad)
def s_z17:List AV→Bool×AV
 | [.dat (.sl (.int .i32)) a0 _]=>(qBp a0,(.dat (.sl (.int .i32)) (z17 a0) (some (2,21))))
 | _=>(false,.bad)
def s_z4:List AV→Bool×AV
 | [.dat (.pair (.int .i64) (.pair (.int .i64) .unit)) a0 _,.dat (.sl (.int .i32)) a1 _]=>(z4_ok a0 a1,(dh (z4 a0 a1) none))
 | _=>(false,.bad)
theorem qmq:qe G Tryz.prog 164 s_z164:=fun w S hg vals avs r h hS ha=>by
 unfold s_z164 at h;split at h
 ·simp only [yb,true_and] at h;subst h;exact qtc Tryz.func164 (by kernel_rfl) (by kernel_rfl) (by kernel_rfl) (by kernel_rfl) hS ha
 ·cases h
def s_z170 (m0:Int):List AV→Bool×AV
 | [df a0 _,df a1 _]=>(qml m0 a0 a1,(de (z170 a0 a1) none))
 | _=>(false,.bad)
theorem quQ (m0:Int):qe (Gm m0) Tryz.prog 170 (s_z170 m0):=fun w S hg vals avs r h hS ha=>by
 unfold s_z170 at h;split at h
 ·obtain ⟨hp,rfl⟩:=yj h;simp only [qml,yf,ym] at hp;have hm:w.cell? ⟨0,0,none⟩=some (.int .i64 m0):=by
   cases hg.2 0 (.int .i64) m0 rfl with
   | adr _ _ ad cs h1 h2 =>
    have e:cs=[.int .i64 m0]:=h1;subst e;exact ((h2.2 (by simp)).2 0 _ rfl).2
  exact qtd Tryz.func170 (by kernel_rfl) (by kernel_rfl) (by kernel_rfl) (by kernel_rfl) (g:=0) (by kernel_rfl) hm hS ha hp.1.1 hp.1.2 hp.2
 ·cases h
theorem quR:qe G Tryz.prog 165 s_z165:=fun w S hg vals avs r h hS ha=>by
 unfold s_z165 at h;split at h
 ·simp only [yb] at h;cases h.1
 ·cases h
theorem quS:qe G Tryz.prog 169 s_z169:=fun w S hg vals avs r h hS ha=>by
 unfold s_z169 at h;split at h
 ·obtain ⟨hp,rfl⟩:=yj h;obtain ⟨m,hm⟩:=hg;exact qte hm.1.1 hS ha (by simpa [qmm] using hp)
 ·cases h
theorem qmr:qe G Tryz.prog 143 s_z143:=fun w S hg vals avs r h hS ha=>by
 unfold s_z143 at h;split at h
 ·obtain ⟨hp,rfl⟩:=yj h;unfold qhD at hp;simp only [yf,ym] at hp;obtain ⟨m,hm⟩:=hg;have hc:w.cell? ⟨0,0,none⟩=some (.int .i64 m):=by
   cases hm.2 0 (.int .i64) m rfl with
   | adr _ _ ad cs h1 h2 =>
    have e:cs=[.int .i64 m]:=h1;subst e;exact ((h2.2 (by simp)).2 0 _ rfl).2
  exact qtf hc hS ha (qm hp.1) (qm hp.2.1) hp.2.2
 ·cases h
theorem qhF:qe G Tryz.prog 153 s_z153:=fun w S hg vals avs r h hS ha=>by
 unfold s_z153 at h;split at h
 ·obtain ⟨hp,rfl⟩:=yj h;exact qtg hS ha (qm hp)
 ·cases h
theorem quT:qe G Tryz.prog 193 s_z193:=fun w S hg vals avs r h hS ha=>by
 unfold s_z193 at h;split at h
 ·simp only [yb,true_and] at h;subst h;exact qth hS ha
 ·cases h
theorem quU:qe G Tryz.prog 192 s_z192:=fun w S hg vals avs r h hS ha=>by
 unfold s_z192 at h;split at h
 ·simp only [yb] at h;cases h.1
 ·cases h
theorem quV:qe G Tryz.prog 141 s_z141:=fun w S hg vals avs r h hS ha=>by
 unfold s_z141 at h;split at h
 ·simp only [yb,true_and] at h;subst h;exact qti hS ha
 ·cases h
theorem quW:qe G Tryz.prog 210 s_z210:=fun w S hg vals avs r h hS ha=>by
 unfold s_z210 at h;split at h
 ·simp only [yb] at h;cases h.1
 ·cases h
theorem quX:qe G Tryz.prog 163 s_z163:=fun w S hg vals avs r h hS ha=>by
 unfold s_z163 at h;split at h
 ·obtain ⟨hp,rfl⟩:=yj h;have hp':=of_decide_eq_true hp;obtain ⟨m,hm⟩:=hg;exact qtj hm.1.2 hS ha hp'.1 hp'.2
 ·cases h
def E_z80:EnvP:=eQ [(141,s_z141)] 8 (some [4]) nC nC nP
def C_z80:Code:=cO Tryz.f80
def R_z80:Array ResultVar:=Tryz.f80.results
theorem qMq (n:Nat) (b0:LU) (o0:Lab) (c1:UInt8) (o1:Lab):evFnP E_z80 n C_z80 R_z80 [db b0 o0,dn c1 o1]=qLF n b0 c1:=by
 kernel_rfl
theorem qAf:qe G Tryz.prog 80 s_z80:=by
 refine sQ (E:=E_z80) (c:=C_z80) rfl (fun w S hg=>(qa (quV w S hg) qc)) Tryz.func80 ?_;intro avs r h;unfold s_z80 at h;split at h <;> cases h
 obtain ⟨n,hn⟩:=qGu _ _;exact ⟨n,_,(qMq n _ _ _ _).trans hn,.inl rfl⟩
def qHL:EnvP:=eQ [] 5 (some [2]) nC nC nP
def qHM:Code:=cO Tryz.f166
def qMr:Array ResultVar:=Tryz.f166.results
theorem qHN (n:Nat) (bufLen0:Int) (o0:Lab):evFnP qHL n qHM qMr [de bufLen0 o0]=qDD n bufLen0:=by
 kernel_rfl
theorem quY:qe G Tryz.prog 166 s_z166:=by
 refine sQ (E:=qHL) (c:=qHM) rfl (fun w S hg=>qc) Tryz.func166 ?_;intro avs r h;unfold s_z166 at h;split at h <;> cases h
 obtain ⟨n,hn⟩:=qCV _;exact ⟨n,_,(qHN n _ _).trans hn,.inl rfl⟩
def qkd:EnvP:=eQ [] 21 (some [2,3]) (fun x=>if x=2 then some [0,2,4] else none) (fun x=>if x=0 then some [2] else if x=1 then some [0,2,4] else none) nP
def qso:Code:=cO Tryz.f167
def qHO:Array ResultVar:=Tryz.f167.results
noncomputable def qke (K:Ex→Fr→OA):=fun as2 ok3=>K .ret (frOf [(2,(.box (.arr 256 .bool) as2)),(3,dg ok3)])
noncomputable def qhG (K:Ex→Fr→OA):=fun as2=>K (.exit 0) (frOf [(2,(.box (.arr 256 .bool) as2))])
def qkf (n:Nat):Ex→Fr→OA:=qo 0 (qkd.cutb 0) (kSeq (evCP qkd (evLP qkd n) (sub qso [1,1])) (kFnP qkd qHO))
def qnX (chars0:LU) (as2:List Bool) (i4:Int):Fr:=frOf [(0,(df chars0 none)),(2,(.box (.arr 256 .bool) as2)),(4,dc i4)]
theorem quZ (K:Ex→Fr→OA):∀ (n:Nat) (chars0:LU) (as2:List Bool) (i4:Int),evLP qkd n (sub qso [1,0,1,0,0]) K (qnX chars0 as2 i4)=qeF (qke K) (qhG K) n chars0 as2 i4:=by
 intro n;induction n with
 | zero=>intros; rfl
 | succ n IH =>
 intro chars0 as2 i4;have ih:(fun chars0 as2 i4=>evLP qkd n (sub qso [1,0,1,0,0]) K (qnX chars0 as2 i4))=qeF (qke K) (qhG K) n:=by
  funext chars0 as2 i4;exact IH chars0 as2 i4
 show _=qdn (qke K) (qhG K) (qeF (qke K) (qhG K) n) n chars0 as2 i4;rw [← ih];kernel_rfl
theorem qnY (n:Nat) (as2:List Bool):(qkf n) (.exit 0) (frOf [(2,(.box (.arr 256 .bool) as2))])=qeG n as2:=by
 kernel_rfl
theorem qHP (n:Nat) (chars0:LU) (o0:Lab):evFnP qkd n qso qHO [df chars0 o0]=qxg n chars0:=by
 unfold qxg;rw [show qeF qhX (qeG n) n=(fun chars0 as2 i4=>evLP qkd n (sub qso [1,0,1,0,0]) (qkf n) (qnX chars0 as2 i4)) from by
  funext chars0 as2 i4;refine Eq.trans ?_ (quZ (qkf n) n chars0 as2 i4).symm;rw [show (qhG (qkf n))=(qeG n) from by
   funext as2;exact qnY n as2]
  all_goals kernel_rfl]
 kernel_rfl
theorem qms:qe G Tryz.prog 167 s_z167:=by
 refine sQ (E:=qkd) (c:=qso) rfl (fun w S hg=>qc) Tryz.func167 ?_;intro avs r h;unfold s_z167 at h;split at h
 ·obtain ⟨hp,rfl⟩:=yj h;obtain ⟨n,hn⟩:=qCp _ hp;exact ⟨n,_,(qHP n _ _).trans hn,.inl rfl⟩
 ·cases h
def qHQ:EnvP:=eQ [] 10 (some [4]) nC nC nP
def qHR:Code:=cO Tryz.f168
def qMs:Array ResultVar:=Tryz.f168.results
theorem qHS (n:Nat) (as0:List Bool) (c1:UInt8) (o1:Lab):evFnP qHQ n qHR qMs [.adr (.arr 256 .bool) as0,dn c1 o1]=qxi n as0 c1:=by
 kernel_rfl
theorem qmt:qe G Tryz.prog 168 s_z168:=by
 refine sQ (E:=qHQ) (c:=qHR) rfl (fun w S hg=>qc) Tryz.func168 ?_;intro avs r h;unfold s_z168 at h;split at h <;> cases h
 obtain ⟨n,hn⟩:=qCq _ _;exact ⟨n,_,(qHS n _ _ _).trans hn,.inl rfl⟩
def qT (m0:Int):EnvP:=⟨⟨tiOf tis,fnsOf [(164,s_z164),(165,s_z165),(166,s_z166),(167,s_z167),(168,s_z168),(169,s_z169),(170,(s_z170 m0))],cnsOf [],[],129,(fun x=>if x=7 then some [28] else if x=24 then some [7,60,61,62] else if x=32 then some [0,1,12] else if x=48 then some [0,1,11,12,13,121] else none),(fun x=>if x=0 then some [] else if x=1 then some [28] else if x=2 then some [] else if x=3 then some [7,60,61,62] else if x=4 then some [] else if x=5 then some [0,1,11,12] else if x=6 then some [0,1,11,12] else if x=7 then some [0,1,11,12,13,121] else none),some [4]⟩,fun _=>none,glm m0,(fun x=>if x=24 then [7] else []),fun _=>none,fun _=>none,fun _=>none,fun _=>none⟩
def qbb:Code:=cO Tryz.f109
def qAg:Array ResultVar:=Tryz.f109.results
def qkg (m0:Int) (n:Nat):Ex→Fr→OA:=qo 0 ((qT m0).cutb 0) (kSeq (evCP (qT m0) (evLP (qT m0) n) (sub qbb [1,1,0,1,0,1,0,1,0,1])) (kSeq (evCP (qT m0) (evLP (qT m0) n) (sub qbb [1,1,0,1,0,1,1])) (kSeq (evCP (qT m0) (evLP (qT m0) n) (sub qbb [1,1,1])) (kFnP (qT m0) qAg))))
def qkh (m0:Int) (n:Nat) (K:Ex→Fr→OA):Ex→Fr→OA:=qo 6 ((qT m0).cutb 6) (qo 5 ((qT m0).cutb 5) (kSeq (evCP (qT m0) (evLP (qT m0) n) (sub qbb [1,1,1,1,1,1,0,1,0,0,1,1])) (kSeq (fun K fr=>evLP (qT m0) n (sub qbb [1,1,1,1,1,1,0,1,0,0]) K (cutFP ((qT m0).cuts 32) fr)) K)))
def qki (m0:Int) (n:Nat):Ex→Fr→OA:=qo 2 ((qT m0).cutb 2) (kSeq (evCP (qT m0) (evLP (qT m0) n) (sub qbb [1,1,1,1,0,1,0,1,1,0,1])) (kSeq (evCP (qT m0) (evLP (qT m0) n) (sub qbb [1,1,1,1,1])) (kFnP (qT m0) qAg)))
def qkj (m0:Int) (n:Nat):Ex→Fr→OA:=qo 4 ((qT m0).cutb 4) (kSeq (evCP (qT m0) (evLP (qT m0) n) (sub qbb [1,1,1,1,1,1,1])) (kFnP (qT m0) qAg))
def qnZ (s0:LU) (chars1:LU) (width11:Int) (i12:Int) (r13:Int) (s121:LU) (s121p:Nat):Fr:=frOf [(0,da s0),(1,(df chars1 none)),(11,dc width11),(12,dc i12),(13,(di r13 none)),(121,(.itr s121 s121p))]
def qoa (as7:List Bool) (s60:LU) (s61:Int) (s62:Int):Fr:=frOf [(7,(.adr (.arr 256 .bool) as7)),(60,da s60),(61,dc s61),(62,dc s62)]
def qfx (s0:LU) (chars1:LU) (width11:Int) (i12:Int):Fr:=frOf [(0,da s0),(1,(df chars1 none)),(11,dc width11),(12,dc i12)]
def qfy (s0:LU) (chars1:LU) (i12:Int):Fr:=frOf [(0,da s0),(1,(df chars1 none)),(12,dc i12)]
theorem qva (m0:Int) (K:Ex→Fr→OA):∀ (n:Nat) (s28:LU) (s28p:Nat),evLP (qT m0) n (sub qbb [1,1,0,1,0,1,0,1,0,0,1,0,0]) K (frOf [(28,(.itr s28 s28p))])=(qeH m0) (fun s4=>K .ret (frOf [(4,dc s4)])) (K (.exit 0) (frOf [])) n s28 s28p:=by
 intro n;induction n with
 | zero=>intros; rfl
 | succ n IH =>
 intro s28 s28p;have ih:(fun s28 s28p=>evLP (qT m0) n (sub qbb [1,1,0,1,0,1,0,1,0,0,1,0,0]) K (frOf [(28,(.itr s28 s28p))]))=(qeH m0) (fun s4=>K .ret (frOf [(4,dc s4)])) (K (.exit 0) (frOf [])) n:=by
  funext s28 s28p;exact IH s28 s28p
 show _=(qdo m0) (fun s4=>K .ret (frOf [(4,dc s4)])) (K (.exit 0) (frOf [])) ((qeH m0) (fun s4=>K .ret (frOf [(4,dc s4)])) (K (.exit 0) (frOf [])) n) n s28 s28p;rw [← ih];kernel_rfl
theorem qob (m0:Int) (n:Nat)  : (qkg m0 n) (.exit 0) (frOf [])=(qgL m0) n  := by
 kernel_rfl
theorem qsp (m0:Int) (K:Ex→Fr→OA):∀ (n:Nat) (as7:List Bool) (s60:LU) (s61:Int) (s62:Int),evLP (qT m0) n (sub qbb [1,1,1,1,0,1,0,1,1,0,0,1,0,0]) K (qoa as7 s60 s61 s62)=(qcq m0) (fun s4=>K .ret (frOf [(4,dc s4)])) (K (.exit 2) (frOf [])) n as7 s60 s61 s62:=by
 intro n;induction n with
 | zero=>intros; rfl
 | succ n IH =>
 intro as7 s60 s61 s62;have ih:(fun as7 s60 s61 s62=>evLP (qT m0) n (sub qbb [1,1,1,1,0,1,0,1,1,0,0,1,0,0]) K (qoa as7 s60 s61 s62))=(qcq m0) (fun s4=>K .ret (frOf [(4,dc s4)])) (K (.exit 2) (frOf [])) n:=by
  funext as7 s60 s61 s62;exact IH as7 s60 s61 s62
 show _=(qca m0) (fun s4=>K .ret (frOf [(4,dc s4)])) (K (.exit 2) (frOf [])) ((qcq m0) (fun s4=>K .ret (frOf [(4,dc s4)])) (K (.exit 2) (frOf [])) n) n as7 s60 s61 s62;rw [← ih];kernel_rfl
theorem qmu (m0:Int) (n:Nat)  : (qki m0 n) (.exit 2) (frOf [])=(qcR m0) n  := by
 kernel_rfl
theorem qsq (m0:Int) (K:Ex→Fr→OA):∀ (n:Nat) (s0:LU) (chars1:LU) (width11:Int) (i12:Int) (r13:Int) (s121:LU) (s121p:Nat),evLP (qT m0) n (sub qbb [1,1,1,1,1,1,0,1,0,0,1,0,0,1,1,1,1,1,0,0]) K (qnZ s0 chars1 width11 i12 r13 s121 s121p)=(qbx m0) (fun s4=>K .ret (frOf [(4,dc s4)])) (fun s0 chars1 width11 i12=>K (.exit 6) (qfx s0 chars1 width11 i12)) n s0 chars1 width11 i12 r13 s121 s121p:=by
 intro n;induction n with
 | zero=>intros; rfl
 | succ n IH =>
 intro s0 chars1 width11 i12 r13 s121 s121p;have ih:(fun s0 chars1 width11 i12 r13 s121 s121p=>evLP (qT m0) n (sub qbb [1,1,1,1,1,1,0,1,0,0,1,0,0,1,1,1,1,1,0,0]) K (qnZ s0 chars1 width11 i12 r13 s121 s121p))=(qbx m0) (fun s4=>K .ret (frOf [(4,dc s4)])) (fun s0 chars1 width11 i12=>K (.exit 6) (qfx s0 chars1 width11 i12)) n:=by
  funext s0 chars1 width11 i12 r13 s121 s121p;exact IH s0 chars1 width11 i12 r13 s121 s121p
 show _=(qcb m0) (fun s4=>K .ret (frOf [(4,dc s4)])) (fun s0 chars1 width11 i12=>K (.exit 6) (qfx s0 chars1 width11 i12)) ((qbx m0) (fun s4=>K .ret (frOf [(4,dc s4)])) (fun s0 chars1 width11 i12=>K (.exit 6) (qfx s0 chars1 width11 i12)) n) n s0 chars1 width11 i12 r13 s121 s121p;rw [← ih];kernel_rfl
theorem qmv (m0:Int) (K:Ex→Fr→OA) (n:Nat) (s0:LU) (chars1:LU) (width11:Int) (i12:Int):(qkh m0 n K) (.exit 6) (qfx s0 chars1 width11 i12)=(qcc m0) (fun s4=>K .ret (frOf [(4,dc s4)])) (K (.exit 4) (frOf [])) (fun s0 chars1 i12=>evLP (qT m0) n (sub qbb [1,1,1,1,1,1,0,1,0,0]) K (qfy s0 chars1 i12)) n s0 chars1 width11 i12:=by
 kernel_rfl
theorem qsr (m0:Int) (K:Ex→Fr→OA):∀ (n:Nat) (s0:LU) (chars1:LU) (i12:Int),evLP (qT m0) n (sub qbb [1,1,1,1,1,1,0,1,0,0]) K (qfy s0 chars1 i12)=(qby m0) (fun s4=>K .ret (frOf [(4,dc s4)])) (K (.exit 4) (frOf [])) n s0 chars1 i12:=by
 intro n;induction n with
 | zero=>intros; rfl
 | succ n IH =>
 intro s0 chars1 i12;have ih:(fun s0 chars1 i12=>evLP (qT m0) n (sub qbb [1,1,1,1,1,1,0,1,0,0]) K (qfy s0 chars1 i12))=(qby m0) (fun s4=>K .ret (frOf [(4,dc s4)])) (K (.exit 4) (frOf [])) n:=by
  funext s0 chars1 i12;exact IH s0 chars1 i12
 show _=(qcS m0) (fun s4=>K .ret (frOf [(4,dc s4)])) (K (.exit 4) (frOf [])) ((qby m0) (fun s4=>K .ret (frOf [(4,dc s4)])) (K (.exit 4) (frOf [])) n) n s0 chars1 i12;rw [← ih];unfold qcS qr;rw [show (qbx m0) (fun s4=>K .ret (frOf [(4,dc s4)])) ((qcc m0) (fun s4=>K .ret (frOf [(4,dc s4)])) (K (.exit 4) (frOf [])) (fun s0 chars1 i12=>evLP (qT m0) n (sub qbb [1,1,1,1,1,1,0,1,0,0]) K (qfy s0 chars1 i12)) n) n=(fun s0 chars1 width11 i12 r13 s121 s121p=>evLP (qT m0) n (sub qbb [1,1,1,1,1,1,0,1,0,0,1,0,0,1,1,1,1,1,0,0]) (qkh m0 n K) (qnZ s0 chars1 width11 i12 r13 s121 s121p)) from by
  funext s0 chars1 width11 i12 r13 s121 s121p;refine Eq.trans ?_ ((qsq m0) (qkh m0 n K) n s0 chars1 width11 i12 r13 s121 s121p).symm;rw [show (fun s0 chars1 width11 i12=>(qkh m0 n K) (.exit 6) (qfx s0 chars1 width11 i12))=((qcc m0) (fun s4=>K .ret (frOf [(4,dc s4)])) (K (.exit 4) (frOf [])) (fun s0 chars1 i12=>evLP (qT m0) n (sub qbb [1,1,1,1,1,1,0,1,0,0]) K (qfy s0 chars1 i12)) n) from by
   funext s0 chars1 width11 i12;exact (qmv m0) K n s0 chars1 width11 i12]
  all_goals kernel_rfl]
 kernel_rfl
theorem qmw (m0:Int) (n:Nat)  : (qkj m0 n) (.exit 4) (frOf [])=(qcd m0) n  := by
 kernel_rfl
theorem qHT (m0:Int) (n:Nat) (s0:LU) (o0:Lab) (chars1:LU) (o1:Lab):evFnP (qT m0) n qbb qAg [db s0 o0,df chars1 o1]=(qqV m0) n s0 chars1:=by
 unfold qqV qcT;rw [show (qeH m0) qH ((qgL m0) n) n=(fun s28 s28p=>evLP (qT m0) n (sub qbb [1,1,0,1,0,1,0,1,0,0,1,0,0]) (qkg m0 n) (frOf [(28,(.itr s28 s28p))])) from by
  funext s28 s28p;refine Eq.trans ?_ ((qva m0) (qkg m0 n) n s28 s28p).symm;rw [show ((qkg m0 n) (.exit 0) (frOf []))=((qgL m0) n) from by
   exact (qob m0) n ]
  all_goals kernel_rfl]
 rw [show (qcq m0) qH ((qcR m0) n) n=(fun as7 s60 s61 s62=>evLP (qT m0) n (sub qbb [1,1,1,1,0,1,0,1,1,0,0,1,0,0]) (qki m0 n) (qoa as7 s60 s61 s62)) from by
  funext as7 s60 s61 s62;refine Eq.trans ?_ ((qsp m0) (qki m0 n) n as7 s60 s61 s62).symm;rw [show ((qki m0 n) (.exit 2) (frOf []))=((qcR m0) n) from by
   exact (qmu m0) n ]
  all_goals kernel_rfl]
 rw [show (qby m0) qH ((qcd m0) n) n=(fun s0 chars1 i12=>evLP (qT m0) n (sub qbb [1,1,1,1,1,1,0,1,0,0]) (qkj m0 n) (qfy s0 chars1 i12)) from by
  funext s0 chars1 i12;refine Eq.trans ?_ ((qsr m0) (qkj m0 n) n s0 chars1 i12).symm;rw [show ((qkj m0 n) (.exit 4) (frOf []))=((qcd m0) n) from by
   exact (qmw m0) n ]
  all_goals kernel_rfl]
 kernel_rfl
theorem qss (m0:Int):qe (Gm m0) Tryz.prog 109 s_z109:=by
 refine qav (qxa m0) (E:=qT m0) (fn:=Tryz.f109) (c:=qbb) (qd rfl qZ) (fun w S hg=>⟨⟨(qa (qmq w S (G_of m0 hg)) (qa (quR w S (G_of m0 hg)) (qa (quY w S (G_of m0 hg)) (qa (qms w S (G_of m0 hg)) (qa (qmt w S (G_of m0 hg)) (qa (quS w S (G_of m0 hg)) (qa (quQ m0 w S hg) qc))))))),fun f sp h=>qx f sp h w S⟩,hg.2,(fun _ _ h=>by cases h),(fun _ _ h=>by cases h),(fun _ _ h=>by cases h),(fun _ _ _ h=>by cases h)⟩) follows Tryz.func109 (by kernel_rfl) (by kernel_rfl) (by kernel_rfl) ?_;intro avs r h;unfold s_z109 at h;split at h
 ·obtain ⟨hp,rfl⟩:=yj h;obtain ⟨n,hn⟩:=qCX m0 _ _ hp;exact ⟨n,_,(qHT m0 n _ _ _ _).trans hn,.inl rfl⟩
 ·cases h
theorem qvb:qe G Tryz.prog 109 s_z109:=fun w S hg=>by obtain ⟨m,h⟩:=G_to hg; exact qss m w S h
def qHU:EnvP:=eQ [] 10 (some [4]) nC nC nP
def qHV:Code:=cO Tryz.f194
def qMt:Array ResultVar:=Tryz.f194.results
theorem qHW (n:Nat) (a0:LU) (o0:Lab) (b1:LU) (o1:Lab):evFnP qHU n qHV qMt [db a0 o0,db b1 o1]=qDE n a0 b1:=by
 kernel_rfl
theorem qmx:qe G Tryz.prog 194 s_z194:=by
 refine sQ (E:=qHU) (c:=qHV) rfl (fun w S hg=>qc) Tryz.func194 ?_;intro avs r h;unfold s_z194 at h;split at h <;> cases h
 obtain ⟨n,hn⟩:=qCr _ _;exact ⟨n,_,(qHW n _ _ _ _).trans hn,.inl rfl⟩
def qHX:EnvP:=eQ [(194,s_z194)] 18 (some [4]) nC nC nP
def qHY:Code:=cO Tryz.f171
def qMu:Array ResultVar:=Tryz.f171.results
theorem qHZ (n:Nat) (s0:LU) (o0:Lab) (prefix1:LU) (o1:Lab):evFnP qHX n qHY qMu [db s0 o0,db prefix1 o1]=qxk n s0 prefix1:=by
 kernel_rfl
theorem qvc:qe G Tryz.prog 171 s_z171:=by
 refine sQ (E:=qHX) (c:=qHY) rfl (fun w S hg=>(qa (qmx w S hg) qc)) Tryz.func171 ?_;intro avs r h;unfold s_z171 at h;split at h <;> cases h
 obtain ⟨n,hn⟩:=qDg _ _;exact ⟨n,_,(qHZ n _ _ _ _).trans hn,.inl rfl⟩
def qIa:EnvP:=eQ [(171,s_z171)] 12 (some [2]) nC (fun x=>if x=0 then some [] else none) nP
def qIb:Code:=cO Tryz.f110
def qMv:Array ResultVar:=Tryz.f110.results
theorem qIc (n:Nat) (s0:LU) (o0:Lab):evFnP qIa n qIb qMv [db s0 o0]=qxl n s0:=by
 kernel_rfl
theorem qvd:qe G Tryz.prog 110 s_z110:=by
 refine sQ (E:=qIa) (c:=qIb) rfl (fun w S hg=>(qa (qvc w S hg) qc)) Tryz.func110 ?_;intro avs r h;unfold s_z110 at h;split at h <;> cases h
 obtain ⟨n,hn⟩:=qDh _;exact ⟨n,_,(qIc n _ _).trans hn,.inl rfl⟩
def qoc:EnvP:=eQ [(109,s_z109),(110,s_z110)] 35 (some [35,36]) (fun x=>if x=0 then some [0,1,35,36] else none) (fun x=>if x=0 then some [35,36] else if x=1 then some [0,1,35,36] else none) nP
def qve:Code:=cO Tryz.f108
def qId:Array ResultVar:=Tryz.f108.results
def qkk (V:Sigma Inv) (x0:Den V.1) (x1:LU):Ex→Fr→OA:=qo 0 (qoc.cutb 0) (kFnM qoc qId [.abs V.1 V.2 x0,.pbox (.leaf (.sl .byte)) x1 none])
def qod (V:Sigma Inv) (xv:Den V.1) (s36:LU):Fr:=frOf [(0,(.padr 35 [])),(1,(.padr 36 [])),(35,(.abs V.1 V.2 xv)),(36,(.pbox (.leaf (.sl .byte)) s36 none))]
def qbU (V:Sigma Inv) (xv:Den V.1) (s36:LU):Fr:=frOf [(35,(.abs V.1 V.2 xv)),(36,(.pbox (.leaf (.sl .byte)) s36 none))]
theorem qvf (V:Sigma Inv) (K:Ex→Fr→OA):∀ (n:Nat) (xv:Den V.1) (s36:LU),evLP qoc n (sub qve [0,0]) K (qod V xv s36)=(qeI V) (fun xv s36=>K .ret (qbU V xv s36)) (fun xv s36=>K (.exit 0) (qbU V xv s36)) n xv s36:=by
 intro n;induction n with
 | zero=>intros; rfl
 | succ n IH =>
 intro xv s36;have ih:(fun xv s36=>evLP qoc n (sub qve [0,0]) K (qod V xv s36))=(qeI V) (fun xv s36=>K .ret (qbU V xv s36)) (fun xv s36=>K (.exit 0) (qbU V xv s36)) n:=by
  funext xv s36;exact IH xv s36
 show _=(qgM V) (fun xv s36=>K .ret (qbU V xv s36)) (fun xv s36=>K (.exit 0) (qbU V xv s36)) ((qeI V) (fun xv s36=>K .ret (qbU V xv s36)) (fun xv s36=>K (.exit 0) (qbU V xv s36)) n) n xv s36;rw [← ih];kernel_rfl
theorem qoe (V:Sigma Inv) (x0:Den V.1) (x1:LU) (n:Nat) (xv:Den V.1) (s36:LU):(qkk V x0 x1) (.exit 0) (qbU V xv s36)=(qgN V) n xv s36:=by
 kernel_rfl
theorem qIe (V:Sigma Inv) (n:Nat) (x0:Den V.1) (x1:LU):evFnM qoc n qve qId [.abs V.1 V.2 x0,.pbox (.leaf (.sl .byte)) x1 none]=(qxm V) n x0 x1:=by
 unfold qxm;rw [show (qeI V) (qhZ V) ((qgN V) n) n=(fun xv s36=>evLP qoc n (sub qve [0,0]) (qkk V x0 x1) (qod V xv s36)) from by
  funext xv s36;refine Eq.trans ?_ ((qvf V) (qkk V x0 x1) n xv s36).symm;rw [show (fun xv s36=>(qkk V x0 x1) (.exit 0) (qbU V xv s36))=((qgN V) n) from by
   funext xv s36;exact (qoe V) x0 x1 n xv s36]
  all_goals kernel_rfl]
 kernel_rfl
theorem qst:qrV G Tryz.prog 108 s_z108:=by
 refine qcm G_stays (E:=qoc) (fn:=Tryz.f108) (c:=qve) (qd rfl qZ) (fun w S hg=>⟨⟨(qa (qvb w S hg) (qa (qvd w S hg) qc)),fun f sp h=>qx f sp h w S⟩,qy w S hg,(fun _ _ h=>by cases h),(fun f sp h=>qC f sp h),(fun f it h=>qD f it h),(fun t kt vt h=>qz t kt vt h)⟩) follows Tryz.func108 (by kernel_rfl) (by kernel_rfl) (by kernel_rfl) ?_;intro avs r h;unfold s_z108 at h;split at h
 ·rename_i s V x _;simp only [yb] at h;obtain ⟨hp,rfl⟩:=h;obtain ⟨n,hn⟩:=qDk ⟨s,V⟩ _ _ hp;exact ⟨n,(qIe ⟨s,V⟩ n _ _).trans hn⟩
 ·cases h
theorem qvg:qHr G Tryz.prog 108 qDw:=qrF qst (enters_of Tryz.func108 (by kernel_rfl) rfl) (fun s V x x' y h=>by
 obtain ⟨h1,h2⟩:=yj h;subst h2;refine ⟨_,_,Prod.ext h1 rfl⟩)
end
end
end Go.Av
