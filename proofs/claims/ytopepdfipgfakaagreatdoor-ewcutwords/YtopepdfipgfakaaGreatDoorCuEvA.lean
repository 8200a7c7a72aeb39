import Derived.Test.YtopepdfipgfakaaGreatDoorCuP7
import Derived.Test.YtopepdfipgfakaaGreatDoorCuC
import Derived.Test.YtopepdfipgfakaaGreatDoorProg
import Derived.KernelRfl
namespace Go.Av
set_option linter.unusedSimpArgs false
noncomputable section
open Go.Proofs
set_option maxRecDepth 100000
set_option linter.unusedVariables false
def tis:List (TypeId×TI):=[(2,⟨some (.int .i64),8,0⟩),
 (3,⟨some (.int .i64),8,0⟩),
 (4,⟨some .bool,1,0⟩),
 (5,⟨some .byte,1,0⟩),
 (6,⟨some .byte,1,0⟩),
 (7,⟨some (.pair (.int .i64) (.pair (.int .i64) (.pair .bool (.pair .byte .unit)))),24,0⟩),
 (8,⟨some (.pair (.int .i64) (.pair (.int .i64) (.pair .bool (.pair .byte .unit)))),24,0⟩),
 (9,⟨some .str,16,0⟩),
 (10,⟨some .str,16,0⟩),
 (11,⟨some .str,16,0⟩),
 (12,⟨some (.int .u64),8,0⟩),
 (13,⟨some (.pair .str (.pair (.int .u64) .unit)),24,0⟩),
 (14,⟨some (.pair .str (.pair (.int .u64) .unit)),24,0⟩),
 (21,⟨some (.int .i32),4,0⟩),
 (22,⟨some (.sl .byte),24,5⟩),
 (24,⟨some (.pair (.sl .byte) (.pair (.int .i64) (.pair (.sl .byte) .unit))),56,0⟩),
 (25,⟨some (.pair (.sl .byte) (.pair (.int .i64) (.pair (.sl .byte) .unit))),56,0⟩),
 (26,⟨some (.int .i64),8,0⟩),
 (29,⟨some (.pair (.sl .byte) (.pair (.int .i64) (.pair (.sl .byte) .unit))),56,0⟩),
 (40,⟨some (.sl (.int .i32)),24,21⟩),
 (46,⟨some (.arr 3 (.int .i64)),24,3⟩),
 (47,⟨some (.sl (.sl (.int .i32))),24,40⟩),
 (57,⟨some (.sl (.sl .byte)),24,22⟩),
 (106,⟨some (.sl .str),24,9⟩),
 (109,⟨some (.sl (.int .i64)),24,3⟩),
 (133,⟨some (.int .u64),8,0⟩),
 (156,⟨some (.int .u32),4,0⟩),
 (159,⟨some (.int .u64),8,0⟩),
 (162,⟨some (.pair .byte (.pair (.int .i32) .unit)),8,0⟩),
 (163,⟨some (.pair .byte (.pair (.int .i32) .unit)),8,0⟩),
 (164,⟨some (.arr 8 (.pair .byte (.pair (.int .i32) .unit))),64,163⟩),
 (177,⟨some .unit,0,0⟩),
 (178,⟨some .unit,0,0⟩),
 (179,⟨some .unit,0,0⟩),
 (187,⟨some (.arr 32 (.int .i32)),128,21⟩),
 (190,⟨some (.arr 256 .bool),256,4⟩),
 (191,⟨some (.arr 256 .bool),256,4⟩),
 (196,⟨some (.arr 32 .byte),32,5⟩),
 (197,⟨some (.arr 64 .byte),64,5⟩),
 (199,⟨some (.arr 256 .byte),256,5⟩),
 (200,⟨some (.pair .byte (.pair .byte .unit)),2,0⟩),
 (201,⟨some (.pair .byte (.pair .byte .unit)),2,0⟩),
 (202,⟨some (.arr 16 (.pair .byte (.pair .byte .unit))),32,201⟩),
 (213,⟨some .byte,1,0⟩),
 (214,⟨some .byte,1,0⟩),
 (217,⟨some (.int .i32),4,0⟩),
 (218,⟨some (.int .i32),4,0⟩)]
theorem qgZ:(tis.all fun p=>tyB Tryz.prog (tiOf tis) p.1)=true:=by kernel_rfl
theorem follows:Tryz.prog.follows .mixedOrders=true:=by kernel_rfl
abbrev FnL:=List (FuncId×(List AV→Bool×AV))
abbrev CutL:=Nat→Option (List Nat)
def eQ (l:FnL) (nt:Nat) (r:Option (List Nat)) (a b:CutL) (p:Nat→Option PSh):EnvP:=⟨⟨tiOf tis,fnsOf l,cnsOf [],[],nt,a,b,r⟩,p,fun _=>none,fun _=>[],fun _=>none,fun _=>none,fun _=>none,fun _=>none⟩
def cO (f:Func):Code:=f.body.getD .skip
def nC:CutL:=fun _=>none
def nP:Nat→Option PSh:=fun _=>none
theorem sQ {E:EnvP} {l:FnL} {nt:Nat} {r:Option (List Nat)} {a b:CutL} {p:Nat→Option PSh} {f:FuncId} {fn:Func} {c:Code} {spec:List AV→Bool×AV} (hE:E=eQ l nt r a b p) (hl:∀ w S,Gc w S→∀ f,qan Tryz.prog f (fnsOf l f) w S)
 (hf:Tryz.prog.funcs[f]? = some fn) (hspec:∀ avs r',spec avs=(true,r')→∃ n v,evFnP E n c fn.results avs=some v∧(v=r'∨v.strip=r')) (hb:fn.body=some c:=by kernel_rfl) (hnt:fn.ntmps=nt:=by kernel_rfl) (hname:(fn.name == "runtime.NumGoroutine")=false:=by kernel_rfl):qe Gc Tryz.prog f spec:=by
 subst hE
 exact qM qaP (E:=eQ l nt r a b p) (qw rfl qgZ) (fun w S hg=>⟨⟨hl w S hg,fun f sp h=>qcL f sp h w S⟩,qbb w S hg,(fun _ _ h=>by cases h),(fun f sp h=>qnt f sp h),(fun f it h=>qnu f it h),(fun t kt vt h=>qex t kt vt h)⟩) follows hf hb hnt hname hspec
def s_z13:List AV→Bool×AV
 | [.dat (.sl .byte) a0 _,.dat (.sl .byte) a1 _]=>(qrU a0 a1,(.dat .bool (z13 a0 a1) none))
 | _=>(false,.bad)
def s_z44:List AV→Bool×AV
 | [.dat (.int .i64) a0 _]=>(true,(.dat .bool (z44 a0) none))
 | _=>(false,.bad)
def s_z45:List AV→Bool×AV
 | [.dat (.int .i64) a0 _]=>(true,(.dat .str (z45 a0) none))
 | _=>(false,.bad)
def s_z133:List AV→Bool×AV
 | [.dat (.int .i64) a0 _]=>(true,(.dat (.sl .str) (z133 a0) (some (2,9))))
 | _=>(false,.bad)
def s_z89:List AV→Bool×AV
 | [.dat (.int .i64) a0 _]=>(true,(.dat .str (z89 a0) none))
 | _=>(false,.bad)
def s_z48:List AV→Bool×AV
 | [.dat (.int .i64) a0 _,.dat (.int .i64) a1 _]=>(true,(.dat .str (z48 a0 a1) none))
 | _=>(false,.bad)
def s_z17:List AV→Bool×AV
 | [.dat (.int .i64) a0 _]=>(true,(.dat (.int .i64) (z17 a0) none))
 | _=>(false,.bad)
def s_z161:List AV→Bool×AV
 | [.dat (.int .i64) a0 _]=>(true,(.dat (.int .i64) (z161 a0) none))
 | _=>(false,.bad)
def s_z196:List AV→Bool×AV
 | [.dat (.int .i32) a0 _]=>(true,(.dat .bool (z196 a0) none))
 | _=>(false,.bad)
def s_z185:List AV→Bool×AV
 | []=>(true,(.dat (.arr 8 (.pair .byte (.pair (.int .i32) .unit))) z185 none))
 | _=>(false,.bad)
def s_z205:List AV→Bool×AV
 | [.dat (.int .i32) a0 _]=>(true,(.tup [(.dat .byte ((z205 a0).1) none),(.dat .bool ((z205 a0).2) none)]))
 | _=>(false,.bad)
def s_z197:List AV→Bool×AV
 | [.dat (.int .i32) a0 _]=>(true,(.dat .bool (z197 a0) none))
 | _=>(false,.bad)
def s_z186:List AV→Bool×AV
 | []=>(true,(.dat (.sl (.int .i32)) z186 none))
 | _=>(false,.bad)
def s_z233:List AV→Bool×AV
 | [.dat (.sl (.int .i32)) a0 _,.dat (.int .i32) a1 _]=>(qeL a0 a1,(.dat (.int .i64) (z233 a0 a1) none))
 | _=>(false,.bad)
def s_z207:List AV→Bool×AV
 | [.dat (.int .i32) a0 _]=>(true,(.tup [(.dat .byte ((z207 a0).1) none),(.dat .bool ((z207 a0).2) none)]))
 | _=>(false,.bad)
def s_z198:List AV→Bool×AV
 | [.dat (.int .i32) a0 _]=>(true,(.dat .bool (z198 a0) none))
 | _=>(false,.bad)
def s_z230:List AV→Bool×AV
 | [.dat (.int .i32) a0 _]=>(true,(.dat .bool (z230 a0) none))
 | _=>(false,.bad)
def s_z199:List AV→Bool×AV
 | [.dat (.int .i32) a0 _]=>(true,(.dat .bool (z199 a0) none))
 | _=>(false,.bad)
def s_z157:List AV→Bool×AV
 | [.dat (.int .i64) a0 _,.dat (.int .i32) a1 _]=>(true,(.dat .bool (z157 a0 a1) none))
 | _=>(false,.bad)
def s_z202:List AV→Bool×AV
 | [.dat (.int .i64) a0 _,.dat (.sl (.int .i32)) a1 _]=>(qqo a0 a1,(.dat (.int .i64) (z202 a0 a1) none))
 | _=>(false,.bad)
def s_z162:List AV→Bool×AV
 | [.dat (.int .i64) a0 _,.dat (.sl (.int .i32)) a1 _]=>(qqp a0 a1,(.dat .bool (z162 a0 a1) none))
 | _=>(false,.bad)
def s_z243:List AV→Bool×AV
 | [.dat (.int .i32) a0 _]=>(true,(.dat .bool (z243 a0) none))
 | _=>(false,.bad)
def s_z242:List AV→Bool×AV
 | [.dat (.sl (.int .i32)) a0 _,.fn 243 []]=>(qqe a0,(.dat (.int .i64) (z242 a0) none))
 | _=>(false,.bad)
def s_z231:List AV→Bool×AV
 | [.dat (.sl (.int .i32)) a0 _]=>(qqf a0,(.dat (.int .i64) (z231 a0) none))
 | _=>(false,.bad)
def s_z203:List AV→Bool×AV
 | [.dat (.sl (.int .i32)) a0 _]=>(qqg a0,(.dat .bool (z203 a0) none))
 | _=>(false,.bad)
def s_z38:List AV→Bool×AV
 | [.dat (.sl .byte) a0 _]=>(qxl a0,(.dat (.sl .byte) (z38 a0) (some (0,5))))
 | _=>(false,.bad)
def s_z218:List AV→Bool×AV
 | [.dat (.int .i64) a0 _]=>(true,(.dat .byte (z218 a0) none))
 | _=>(false,.bad)
def s_z232:List AV→Bool×AV
 | [.dat (.int .i32) a0 _]=>(true,(.dat (.int .i64) (z232 a0) none))
 | _=>(false,.bad)
def s_z204:List AV→Bool×AV
 | [.dat (.sl .byte) a0 _,.dat (.int .i32) a1 _]=>(qqh a0 a1,(.tup [(.dat (.sl .byte) ((z204 a0 a1).1) none),(.dat (.int .i64) ((z204 a0 a1).2) none)]))
 | _=>(false,.bad)
def s_z163:List AV→Bool×AV
 | [.dat (.sl (.int .i32)) a0 _]=>(qqn a0,(.tup [(.dat (.sl .byte) ((z163 a0).1) none),(.dat (.int .i64) ((z163 a0).2) none)]))
 | _=>(false,.bad)
def s_z164:List AV→Bool×AV
 | [.dat (.sl (.int .i32)) a0 _]=>(qql a0,(.tup [(.dat (.sl .byte) ((z164 a0).1) none),(.dat (.int .i64) ((z164 a0).2) none)]))
 | _=>(false,.bad)
def s_z206:List AV→Bool×AV
 | [.dat (.sl (.int .i32)) a0 _]=>(qqi a0,(.dat (.int .i64) (z206 a0) none))
 | _=>(false,.bad)
def s_z165:List AV→Bool×AV
 | [.dat (.sl (.int .i32)) a0 _]=>(qqm a0,(.tup [(.dat (.sl .byte) ((z165 a0).1) none),(.dat (.int .i64) ((z165 a0).2) none)]))
 | _=>(false,.bad)
def s_z208:List AV→Bool×AV
 | [.dat (.sl (.int .i32)) a0 _]=>(qqj a0,(.dat (.int .i64) (z208 a0) none))
 | _=>(false,.bad)
def s_z166:List AV→Bool×AV
 | [.dat (.sl (.int .i32)) a0 _]=>(qqk a0,(.tup [(.dat (.sl .byte) ((z166 a0).1) none),(.dat (.int .i64) ((z166 a0).2) none)]))
 | _=>(false,.bad)
def s_z120:List AV→Bool×AV
 | [.dat (.int .i64) a0 _,.dat (.sl (.int .i32)) a1 _]=>(qhD a0 a1,(.tup [(.dat (.sl .byte) ((z120 a0 a1).1) none),(.dat (.int .i64) ((z120 a0 a1).2) none)]))
 | _=>(false,.bad)
def s_z214:List AV→Bool×AV
 | [.dat .byte a0 _]=>(true,(.dat (.int .i64) (z214 a0) none))
 | _=>(false,.bad)
def s_z241:List AV→Bool×AV
 | [.dat .str a0 _,.dat .byte a1 _]=>(true,(.dat (.int .i64) (z241 a0 a1) none))
 | _=>(false,.bad)
def s_z229:List AV→Bool×AV
 | [.dat .str a0 _,.dat .byte a1 _]=>(true,(.dat (.int .i64) (z229 a0 a1) none))
 | _=>(false,.bad)
def s_z192:List AV→Bool×AV
 | [.dat .str a0 _,.dat .byte a1 _]=>(true,(.dat (.int .i64) (z192 a0 a1) none))
 | _=>(false,.bad)
def s_z215:List AV→Bool×AV
 | [.dat .str a0 _,.dat .byte a1 _]=>(true,(.dat .bool (z215 a0 a1) none))
 | _=>(false,.bad)
def s_z180:List AV→Bool×AV
 | [.dat .byte a0 _]=>(true,(.dat (.int .i64) (z180 a0) none))
 | _=>(false,.bad)
def s_z129:List AV→Bool×AV
 | [.dat .byte a0 _,.dat (.int .i64) a1 _]=>(true,(.dat .bool (z129 a0 a1) none))
 | _=>(false,.bad)
def s_z84:List AV→Bool×AV
 | [.dat .byte a0 _]=>(true,(.dat (.int .i64) (z84 a0) none))
 | _=>(false,.bad)
def s_z83:List AV→Bool×AV
 | [.dat (.sl .byte) a0 _]=>(qhc a0,(.dat (.int .i64) (z83 a0) none))
 | _=>(false,.bad)
def s_z87:List AV→Bool×AV
 | [.dat (.int .i64) a0 _]=>(true,(.dat (.int .i64) (z87 a0) none))
 | _=>(false,.bad)
def s_z154:List AV→Bool×AV
 | [.iface 178 (.dat .unit () none),.dat (.sl .byte) a1 _]=>(qeE a1,.tup [.dat (.int .i64) (z87 ((List.length a1:Nat):Int)) none,.dat .bool true none])
 | [.iface 179 (.dat .unit () none),.dat (.sl .byte) a1 _]=>(qeE a1,.tup [.dat (.int .i64) (z83 a1) none,.dat .bool true none])
 | [.nilIface,.dat (.sl .byte) a1 _]=>(true,.tup [.dat (.int .i64) (0:Int) none,.dat .bool false none])
 | _=>(false,.bad)
def s_z154_v0:List AV→Bool×AV
 | [.iface 178 (.dat .unit () none),.dat (.sl .byte) a1 _]=>(true,.tup [.dat (.int .i64) (z87 ((List.length a1:Nat):Int)) none,.dat .bool true none])
 | _=>(false,.bad)
def s_z154_v1:List AV→Bool×AV
 | [.iface 179 (.dat .unit () none),.dat (.sl .byte) a1 _]=>(qeE a1,.tup [.dat (.int .i64) (z83 a1) none,.dat .bool true none])
 | _=>(false,.bad)
def s_z154_v2:List AV→Bool×AV
 | [.nilIface,.dat (.sl .byte) a1 _]=>(true,.tup [.dat (.int .i64) (0:Int) none,.dat .bool false none])
 | _=>(false,.bad)
def s_z194:List AV→Bool×AV
 | [.dat .unit a0 _]=>(true,(.dat (.int .i64) (z194 a0) none))
 | _=>(false,.bad)
def s_z195:List AV→Bool×AV
 | [.dat .unit a0 _]=>(true,(.dat (.int .i64) (z195 a0) none))
 | _=>(false,.bad)
def s_z155:List AV→Bool×AV
 | [.dat (.int .i64) a0 _]=>(true,z155 a0)
 | _=>(false,.bad)
def s_z112:List AV→Bool×AV
 | [.dat (.int .i64) a0 _,.dat (.int .i64) a1 _,.dat (.sl (.int .i32)) a2 _]=>(qeF a0 a1 a2,(.tup [(.dat (.int .i64) ((z112 a0 a1 a2).1) none),(.dat (.int .i64) ((z112 a0 a1 a2).2) none)]))
 | _=>(false,.bad)
def s_z66:List AV→Bool×AV
 | [.dat (.int .i64) a0 _,.dat (.int .i64) a1 _,.dat (.sl (.int .i32)) a2 _]=>(qrD a0 a1 a2,(.tup [(.dat (.int .i64) ((z66 a0 a1 a2).1) none),(.dat (.int .i64) ((z66 a0 a1 a2).2) none)]))
 | _=>(false,.bad)
def s_z156:List AV→Bool×AV
 | [.dat (.int .i64) a0 _,.dat (.int .i64) a1 _,.dat (.sl (.int .i32)) a2 _,.dat (.int .i64) a3 _]=>(qoS a0 a1 a2 a3,(.dat .bool (z156 a0 a1 a2 a3) none))
 | _=>(false,.bad)
def s_z114:List AV→Bool×AV
 | [.dat (.int .i64) a0 _,.dat (.int .i64) a1 _,.dat (.sl (.int .i32)) a2 _,.dat (.int .i64) a3 _]=>(qoT a0 a1 a2 a3,(.dat (.int .i64) (z114 a0 a1 a2 a3) none))
 | _=>(false,.bad)
def s_z113:List AV→Bool×AV
 | [.abs s V x,.pbox (.leaf (.sl (.int .i32))) b0 none,.pbox (.leaf (.int .i64)) b1 none,.pbox (.leaf (.int .i64)) b2 none,.pbox (.leaf (.int .i64)) b3 none]=>((z113 (fun x a0=>V.spec x [⟨(.sl (.int .i32)),a0⟩]) x b0 b1 b2 b3).1,.tup [.tup [],.abs s V (z113 (fun x a0=>V.spec x [⟨(.sl (.int .i32)),a0⟩]) x b0 b1 b2 b3).2.1,.pbox (.leaf (.sl (.int .i32))) ((z113 (fun x a0=>V.spec x [⟨(.sl (.int .i32)),a0⟩]) x b0 b1 b2 b3).2.2.1) none,.pbox (.leaf (.int .i64)) ((z113 (fun x a0=>V.spec x [⟨(.sl (.int .i32)),a0⟩]) x b0 b1 b2 b3).2.2.2.1) none,.pbox (.leaf (.int .i64)) ((z113 (fun x a0=>V.spec x [⟨(.sl (.int .i32)),a0⟩]) x b0 b1 b2 b3).2.2.2.2.1) none,.pbox (.leaf (.int .i64)) ((z113 (fun x a0=>V.spec x [⟨(.sl (.int .i32)),a0⟩]) x b0 b1 b2 b3).2.2.2.2.2) none])
 | _=>(false,.bad)
def qBA:Iter:=⟨[.leaf (.sl (.int .i32)),.leaf (.int .i64),.leaf (.int .i64),.leaf (.int .i64)],fun s spec x y=>((z113 (fun x a0=>spec x [⟨(.sl (.int .i32)),a0⟩]) x y.1 y.2.1 y.2.2.1 y.2.2.2.1).1,(z113 (fun x a0=>spec x [⟨(.sl (.int .i32)),a0⟩]) x y.1 y.2.1 y.2.2.1 y.2.2.2.1).2.1)⟩
def s_z67:List AV→Bool×AV
 | [.dat (.int .i64) a0 _,.dat (.int .i64) a1 _,.dat (.sl (.int .i32)) a2 _,.dat (.int .i64) a3 _]=>(true,(.abs (qdU [.leaf (.sl (.int .i32)),.leaf (.int .i64),.leaf (.int .i64),.leaf (.int .i64)]) (clInv 113 [.leaf (.sl (.int .i32)),.leaf (.int .i64),.leaf (.int .i64),.leaf (.int .i64)]) (a2,(a0,(a1,(a3,()))))))
 | _=>(false,.bad)
def s_z68:List AV→Bool×AV
 | [.dat (.sl (.int .i32)) a0 _]=>(qCX a0,(.dat (.sl (.int .i32)) (z68 a0) none))
 | _=>(false,.bad)
def s_z28:List AV→Bool×AV
 | [.dat (.int .i64) a0 _,.dat (.int .i64) a1 _,.dat (.sl (.int .i32)) a2 _,.dat (.int .i64) a3 _]=>(qzj a0 a1 a2 a3,(.tup [(.dat (.sl (.sl (.int .i32))) ((z28 a0 a1 a2 a3).1) none),(.dat (.int .i64) ((z28 a0 a1 a2 a3).2) none)]))
 | _=>(false,.bad)
def s_z116:List AV→Bool×AV
 | [.dat (.int .i32) a0 _]=>(true,(.dat (.int .i64) (z116 a0) none))
 | _=>(false,.bad)
def s_z201:List AV→Bool×AV
 | [.dat (.int .u64) a0 _]=>(qvb a0,(.dat (.int .i64) (z201 a0) none))
 | _=>(false,.bad)
def s_z158:List AV→Bool×AV
 | [.dat (.int .u64) a0 _]=>(qoV a0,(.dat (.int .i64) (z158 a0) none))
 | _=>(false,.bad)
def s_z117:List AV→Bool×AV
 | [.dat (.int .i64) a0 _]=>(qoW a0,(.dat (.int .i64) (z117 a0) none))
 | _=>(false,.bad)
def s_z71:List AV→Bool×AV
 | [.dat (.sl (.int .i32)) a0 _]=>(qzg a0,(.tup [(.dat (.int .i64) ((z71 a0).1) none),(.dat (.int .i64) ((z71 a0).2) none)]))
 | _=>(false,.bad)
def s_z159:List AV→Bool×AV
 | [.dat (.int .i64) a0 _,.dat (.int .i64) a1 _,.dat (.sl (.int .i32)) a2 _]=>(qhl a0 a1 a2,(.dat (.int .i64) (z159 a0 a1 a2) none))
 | _=>(false,.bad)
def s_z118:List AV→Bool×AV
 | [.dat (.int .i64) a0 _,.dat (.sl (.int .i32)) a1 _]=>(qoR a0 a1,(.dat (.int .i64) (z118 a0 a1) none))
 | _=>(false,.bad)
def s_z72:List AV→Bool×AV
 | [.dat (.int .i64) a0 _,.dat (.sl (.int .i32)) a1 _]=>(qzd a0 a1,(.tup [(.dat (.int .i64) ((z72 a0 a1).1) none),(.dat (.int .i64) ((z72 a0 a1).2) none)]))
 | _=>(false,.bad)
def s_z30:List AV→Bool×AV
 | [.dat (.sl (.int .i32)) a0 _]=>(qzl a0,(.tup [(.dat (.int .i64) ((z30 a0).1) none),(.dat (.int .i64) ((z30 a0).2.1) none),(.dat (.int .i64) ((z30 a0).2.2) none)]))
 | _=>(false,.bad)
def s_z181:List AV→Bool×AV
 | [.dat (.int .i64) a0 _]=>(qcp a0,(.dat .byte (z181 a0) none))
 | _=>(false,.bad)
def s_z130:List AV→Bool×AV
 | [.dat .byte a0 _]=>(true,(.dat (.sl .byte) (z130 a0) (some (2,5))))
 | _=>(false,.bad)
def s_z85:List AV→Bool×AV
 | [.dat (.sl .byte) a0 _,.dat .byte a1 _,.dat .byte a2 _]=>(qBn a0 a1 a2,(.dat (.sl .byte) (z85 a0 a1 a2) (some (6,5))))
 | _=>(false,.bad)
def s_z46:List AV→Bool×AV
 | [.dat (.sl .byte) a0 _]=>(qBo a0,(.dat (.sl .byte) (z46 a0) (some (2,5))))
 | _=>(false,.bad)
def s_z132:List AV→Bool×AV
 | [.dat (.int .i64) a0 _]=>(true,(.dat .byte (z132 a0) none))
 | _=>(false,.bad)
def s_z88:List AV→Bool×AV
 | [.dat (.sl .byte) a0 _]=>(qJG a0,(.dat (.sl .byte) (z88 a0) (some (2,5))))
 | _=>(false,.bad)
def s_z47:List AV→Bool×AV
 | [.dat (.sl .byte) a0 _]=>(qEL a0,(.dat (.sl .byte) (z47 a0) none))
 | _=>(false,.bad)
def s_z15:List AV→Bool×AV
 | [.dat (.int .i64) a0 _,.dat (.int .i64) a1 _,.dat (.sl .byte) a2 _]=>(qBp a0 a1 a2,(.tup [(.dat (.sl .byte) ((z15 a0 a1 a2).1) none),(.dat (.int .i64) ((z15 a0 a1 a2).2) none)]))
 | _=>(false,.bad)
def s_z75:List AV→Bool×AV
 | [.dat (.int .i64) a0 _,.dat (.int .i64) a1 _,.dat (.sl (.int .i32)) a2 _]=>(qzn a0 a1 a2,(.tup [(.dat (.sl .byte) ((z75 a0 a1 a2).1) none),(.dat (.int .i64) ((z75 a0 a1 a2).2) none)]))
 | _=>(false,.bad)
def s_z32:List AV→Bool×AV
 | [.dat (.sl (.int .i32)) a0 _,.dat (.int .i64) a1 _]=>(qjj a0 a1,(.tup [(.dat (.sl (.sl .byte)) ((z32 a0 a1).1) none),(.dat (.int .i64) ((z32 a0 a1).2) none)]))
 | _=>(false,.bad)
def s_z77:List AV→Bool×AV
 | [.dat (.sl (.sl .byte)) a0 _,.dat (.sl .byte) a1 _]=>(qrG a0 a1,(.dat (.sl .byte) (z77 a0 a1) none))
 | _=>(false,.bad)
def s_z34:List AV→Bool×AV
 | [.dat (.sl (.int .i32)) a0 _,.dat (.int .i64) a1 _]=>(qvc a0 a1,(.tup [(.dat (.sl .byte) ((z34 a0 a1).1) none),(.dat (.int .i64) ((z34 a0 a1).2) none)]))
 | _=>(false,.bad)
def s_z36:List AV→Bool×AV
 | [.dat (.sl (.int .i32)) a0 _,.dat (.int .i64) a1 _]=>(qvd a0 a1,(.dat (.int .i64) (z36 a0 a1) none))
 | _=>(false,.bad)
def s_z27:List AV→Bool×AV
 | []=>(true,(.dat .bool z27 none))
 | _=>(false,.bad)
def s_z134:List AV→Bool×AV
 | [.dat (.sl .byte) a0 _]=>(qll a0,(.dat (.sl (.int .i64)) (z134 a0) (some (2,3))))
 | _=>(false,.bad)
def s_z135:List AV→Bool×AV
 | [.dat (.int .i64) a0 _]=>(true,(.dat .byte (z135 a0) none))
 | _=>(false,.bad)
def s_z136:List AV→Bool×AV
 | [.dat (.sl (.int .i64)) a0 _]=>(qhE a0,(.dat (.int .i64) (z136 a0) none))
 | _=>(false,.bad)
def s_z90:List AV→Bool×AV
 | [.dat (.sl .byte) a0 _]=>(qxi a0,(.dat (.sl .byte) (z90 a0) (some (2,5))))
 | _=>(false,.bad)
def s_z49:List AV→Bool×AV
 | [.dat (.sl .byte) a0 _]=>(qjC a0,(.dat (.sl .byte) (z49 a0) (some (2,5))))
 | _=>(false,.bad)
def s_z179:List AV→Bool×AV
 | [.dat .str a0 _,.dat .byte a1 _]=>(qCe a0 a1,(.dat .bool (z179 a0 a1) none))
 | _=>(false,.bad)
def s_z128:List AV→Bool×AV
 | [.dat .byte a0 _]=>(true,(.dat (.int .i64) (z128 a0) none))
 | _=>(false,.bad)
def s_z82:List AV→Bool×AV
 | [.dat .byte a0 _,.dat (.int .i64) a1 _]=>(true,(.dat .bool (z82 a0 a1) none))
 | _=>(false,.bad)
def s_z184:List AV→Bool×AV
 | [.dat (.int .i64) a0 _]=>(qcq a0,(.dat .byte (z184 a0) none))
 | _=>(false,.bad)
def s_z137:List AV→Bool×AV
 | [.dat (.sl .byte) a0 _,.dat .byte a1 _,.dat .byte a2 _]=>(qqd a0 a1 a2,(.dat (.sl .byte) (z137 a0 a1 a2) (some (6,5))))
 | _=>(false,.bad)
def s_z91:List AV→Bool×AV
 | [.dat .byte a0 _]=>(true,(.dat (.sl .byte) (z91 a0) (some (2,5))))
 | _=>(false,.bad)
def s_z50:List AV→Bool×AV
 | [.dat (.sl .byte) a0 _]=>(qjB a0,(.dat (.sl .byte) (z50 a0) (some (2,5))))
 | _=>(false,.bad)
def s_z92:List AV→Bool×AV
 | [.dat (.int .i64) a0 _]=>(true,(.dat (.sl .str) (z92 a0) (some (2,9))))
 | _=>(false,.bad)
def s_z51:List AV→Bool×AV
 | [.dat (.int .i64) a0 _]=>(true,(.dat .str (z51 a0) none))
 | _=>(false,.bad)
def s_z16:List AV→Bool×AV
 | [.dat (.int .i64) a0 _,.dat (.int .i64) a1 _,.dat (.sl .byte) a2 _]=>(qBq a0 a1 a2,(.tup [(.dat (.sl .byte) ((z16 a0 a1 a2).1) none),(.dat (.int .i64) ((z16 a0 a1 a2).2) none)]))
 | _=>(false,.bad)
def s_z18:List AV→Bool×AV
 | [.dat (.int .i64) a0 _]=>(true,(.dat (.int .i64) (z18 a0) none))
 | _=>(false,.bad)
def s_z210:List AV→Bool×AV
 | [.dat .byte a0 _]=>(true,(.dat (.int .i32) (z210 a0) none))
 | _=>(false,.bad)
def s_z168:List AV→Bool×AV
 | [.dat (.int .i32) a0 _]=>(true,(.tup [(.dat .byte ((z168 a0).1) none),(.dat .bool ((z168 a0).2) none)]))
 | _=>(false,.bad)
def s_z64:List AV→Bool×AV
 | [.dat .byte a0 _]=>(true,(.dat (.int .i32) (z64 a0) none))
 | _=>(false,.bad)
def s_z169:List AV→Bool×AV
 | [.dat (.int .i32) a0 _]=>(true,(.tup [(.dat .byte ((z169 a0).1) none),(.dat .bool ((z169 a0).2) none)]))
 | _=>(false,.bad)
def s_z65:List AV→Bool×AV
 | [.dat .byte a0 _]=>(true,(.dat (.int .i32) (z65 a0) none))
 | _=>(false,.bad)
def s_z170:List AV→Bool×AV
 | [.dat (.int .i32) a0 _]=>(true,(.tup [(.dat .byte ((z170 a0).1) none),(.dat .bool ((z170 a0).2) none)]))
 | _=>(false,.bad)
def s_z234:List AV→Bool×AV
 | [.dat (.int .i32) a0 _]=>(true,(.dat .bool (z234 a0) none))
 | _=>(false,.bad)
def s_z209:List AV→Bool×AV
 | [.dat (.int .i32) a0 _]=>(true,(.dat .bool (z209 a0) none))
 | _=>(false,.bad)
def s_z167:List AV→Bool×AV
 | [.dat (.int .i64) a0 _,.dat (.int .i32) a1 _]=>(true,(.dat .bool (z167 a0 a1) none))
 | _=>(false,.bad)
def s_z171:List AV→Bool×AV
 | [.dat (.int .i32) a0 _]=>(true,(.dat (.sl .byte) (z171 a0) (some (2,5))))
 | _=>(false,.bad)
def s_z121:List AV→Bool×AV
 | [.dat (.int .i64) a0 _,.dat (.int .i32) a1 _]=>(true,(.dat (.sl .byte) (z121 a0 a1) (some (4,5))))
 | _=>(false,.bad)
def s_z76:List AV→Bool×AV
 | [.dat (.int .i64) a0 _,.dat (.sl (.int .i32)) a1 _]=>(qrQ a0 a1,(.tup [(.dat (.sl .byte) ((z76 a0 a1).1) none),(.dat (.int .i64) ((z76 a0 a1).2) none)]))
 | _=>(false,.bad)
def s_z69:List AV→Bool×AV
 | [.dat (.int .i64) a0 _,.dat (.int .i64) a1 _,.dat (.sl (.int .i32)) a2 _]=>(qha a0 a1 a2,(.tup [(.dat (.int .i64) ((z69 a0 a1 a2).1) none),(.dat (.int .i64) ((z69 a0 a1 a2).2) none)]))
 | _=>(false,.bad)
def s_z115:List AV→Bool×AV
 | [.dat (.int .i64) a0 _,.dat (.int .i64) a1 _,.dat (.sl (.int .i32)) a2 _,.dat (.int .i64) a3 _]=>(qoU a0 a1 a2 a3,(.dat .bool (z115 a0 a1 a2 a3) none))
 | _=>(false,.bad)
def s_z70:List AV→Bool×AV
 | [.dat (.int .i64) a0 _,.dat (.int .i64) a1 _,.dat (.sl (.int .i32)) a2 _,.dat (.int .i64) a3 _]=>(qzf a0 a1 a2 a3,(.dat (.int .i64) (z70 a0 a1 a2 a3) none))
 | _=>(false,.bad)
def s_z29:List AV→Bool×AV
 | [.dat (.int .i64) a0 _,.dat (.int .i64) a1 _,.dat (.sl (.int .i32)) a2 _,.dat (.int .i64) a3 _]=>(qzk a0 a1 a2 a3,(.tup [(.dat (.sl (.sl (.int .i32))) ((z29 a0 a1 a2 a3).1) none),(.dat (.int .i64) ((z29 a0 a1 a2 a3).2) none)]))
 | _=>(false,.bad)
def s_z160:List AV→Bool×AV
 | [.dat (.int .i64) a0 _,.dat (.sl (.int .i32)) a1 _]=>(qoX a0 a1,(.dat (.int .i64) (z160 a0 a1) none))
 | _=>(false,.bad)
def s_z119:List AV→Bool×AV
 | [.dat (.int .i64) a0 _,.dat (.sl (.int .i32)) a1 _]=>(qoY a0 a1,(.dat .bool (z119 a0 a1) none))
 | _=>(false,.bad)
def s_z73:List AV→Bool×AV
 | [.dat (.sl (.int .i32)) a0 _]=>(qzh a0,(.tup [(.dat (.int .i64) ((z73 a0).1) none),(.dat (.int .i64) ((z73 a0).2) none)]))
 | _=>(false,.bad)
def s_z74:List AV→Bool×AV
 | [.dat (.int .i64) a0 _,.dat (.sl (.int .i32)) a1 _]=>(qze a0 a1,(.tup [(.dat (.int .i64) ((z74 a0 a1).1) none),(.dat (.int .i64) ((z74 a0 a1).2) none)]))
 | _=>(false,.bad)
def s_z31:List AV→Bool×AV
 | [.dat (.sl (.int .i32)) a0 _]=>(qzm a0,(.tup [(.dat (.int .i64) ((z31 a0).1) none),(.dat (.int .i64) ((z31 a0).2.1) none),(.dat (.int .i64) ((z31 a0).2.2) none)]))
 | _=>(false,.bad)
def s_z33:List AV→Bool×AV
 | [.dat (.sl (.int .i32)) a0 _,.dat (.int .i64) a1 _]=>(qrF a0 a1,(.tup [(.dat (.sl (.sl .byte)) ((z33 a0 a1).1) none),(.dat (.int .i64) ((z33 a0 a1).2) none)]))
 | _=>(false,.bad)
def s_z35:List AV→Bool×AV
 | [.dat (.sl (.int .i32)) a0 _,.dat (.int .i64) a1 _]=>(qzo a0 a1,(.tup [(.dat (.sl .byte) ((z35 a0 a1).1) none),(.dat (.int .i64) ((z35 a0 a1).2) none)]))
 | _=>(false,.bad)
def s_z8:List AV→Bool×AV
 | [.dat (.sl (.int .i32)) a0 _,.dat (.int .i64) a1 _]=>(z8_ok a0 a1,(.dat .bool (z8 a0 a1) none))
 | _=>(false,.bad)
theorem qtm:qe Gc Tryz.prog 241 s_z241:=fun w S hg vals avs r h hS ha=>by
 unfold s_z241 at h
 split at h
 ·simp only [Prod.mk.injEq,true_and] at h
  subst h
  exact qrR Tryz.func241 (by kernel_rfl) (by kernel_rfl) (by kernel_rfl) (by kernel_rfl) hS ha
 ·cases h
theorem qof:qe Gc Tryz.prog 38 s_z38:=fun w S hg vals avs r h hS ha=>by
 unfold s_z38 at h
 split at h
 ·obtain ⟨hp,rfl⟩:=Prod.mk.inj h
  exact qxk hS ha (qp hp)
 ·cases h
theorem qtn:qe Gc Tryz.prog 201 s_z201:=fun w S hg vals avs r h hS ha=>by
 unfold s_z201 at h
 split at h
 ·obtain ⟨hp,rfl⟩:=Prod.mk.inj h
  have hp':=of_decide_eq_true hp
  exact qrH hg.2 hS ha hp'.1 hp'.2
 ·cases h
theorem qyk:qe Gc Tryz.prog 77 s_z77:=fun w S hg vals avs r h hS ha=>by
 unfold s_z77 at h
 split at h
 ·obtain ⟨hp,rfl⟩:=Prod.mk.inj h
  exact qvh hS ha hp
 ·cases h
theorem qyl:qe Gc Tryz.prog 68 s_z68:=fun w S hg vals avs r h hS ha=>by
 unfold s_z68 at h
 split at h
 ·obtain ⟨hp,rfl⟩:=Prod.mk.inj h
  exact qtf hS ha (qp hp)
 ·cases h
def E_z13:EnvP:=eQ [] 26 (some [4]) (fun x=>if x=4 then some [0,1,5] else none) (fun x=>if x=0 then some [] else if x=1 then some [0,1,5] else none) nP
def C_z13:Code:=cO Tryz.f13
def R_z13:Array ResultVar:=Tryz.f13.results
noncomputable def qog (K:Ex→Fr→Option AV):=fun s4=>K .ret (frOf [(4,(.dat .bool s4 none))])
def qoh (n:Nat):Ex→Fr→Option AV:=qm 0 (E_z13.cutb 0) (kSeq (evCP E_z13 (evLP E_z13 n) (sub C_z13 [1,1,1])) (kFnP E_z13 R_z13))
def qto (a0:List UInt8) (b1:List UInt8) (i5:Int):Fr:=frOf [(0,(.dat (.sl .byte) a0 none)),(1,(.dat (.sl .byte) b1 none)),(5,(.dat (.int .i64) i5 none))]
theorem qym (K:Ex→Fr→Option AV):∀ (n:Nat) (a0:List UInt8) (b1:List UInt8) (i5:Int),evLP E_z13 n (sub C_z13 [1,1,0,1,0,0]) K (qto a0 b1 i5)=qjl (qog K) (K (.exit 0) (frOf [])) n a0 b1 i5:=by
 intro n
 induction n with
 | zero=>intros; rfl
 | succ n IH =>
 intro a0 b1 i5
 have ih:(fun a0 b1 i5=>evLP E_z13 n (sub C_z13 [1,1,0,1,0,0]) K (qto a0 b1 i5))=qjl (qog K) (K (.exit 0) (frOf [])) n:=by
  funext a0 b1 i5
  exact IH a0 b1 i5
 show _=qdZ (qog K) (K (.exit 0) (frOf [])) (qjl (qog K) (K (.exit 0) (frOf [])) n) n a0 b1 i5
 rw [← ih]
 kernel_rfl
theorem qqX (n:Nat)  : (qoh n) (.exit 0) (frOf [])=qjm n  := by
 kernel_rfl
theorem qKc (n:Nat) (a0:List UInt8) (o0:Lab) (b1:List UInt8) (o1:Lab):evFnP E_z13 n C_z13 R_z13 [.dat (.sl .byte) a0 o0,.dat (.sl .byte) b1 o1]=qzz n a0 b1:=by
 unfold qzz
 rw [show qjl qhu (qjm n) n=(fun a0 b1 i5=>evLP E_z13 n (sub C_z13 [1,1,0,1,0,0]) (qoh n) (qto a0 b1 i5)) from by
  funext a0 b1 i5
  refine Eq.trans ?_ (qym (qoh n) n a0 b1 i5).symm
  rw [show ((qoh n) (.exit 0) (frOf []))=(qjm n) from by
   exact qqX n ]
  all_goals kernel_rfl]
 kernel_rfl
theorem qyn:qe Gc Tryz.prog 13 s_z13:=by
 refine sQ (E:=E_z13) (c:=C_z13) rfl (fun w S hg=>qc) Tryz.func13 ?_
 intro avs r h
 unfold s_z13 at h
 split at h
 ·obtain ⟨hp,rfl⟩:=Prod.mk.inj h
  obtain ⟨n,hn⟩:=qDR _ _ hp
  exact ⟨n,_,(qKc n _ _ _ _).trans hn,.inl rfl⟩
 ·cases h
def E_z44:EnvP:=eQ [] 9 (some [2]) nC nC nP
def C_z44:Code:=cO Tryz.f44
def R_z44:Array ResultVar:=Tryz.f44.results
theorem qKd (n:Nat) (n0:Int) (o0:Lab):evFnP E_z44 n C_z44 R_z44 [.dat (.int .i64) n0 o0]=qDq n n0:=by
 kernel_rfl
theorem qoi:qe Gc Tryz.prog 44 s_z44:=by
 refine sQ (E:=E_z44) (c:=C_z44) rfl (fun w S hg=>qc) Tryz.func44 ?_
 intro avs r h
 unfold s_z44 at h
 split at h <;> cases h
 obtain ⟨n,hn⟩:=qEc _
 exact ⟨n,_,(qKd n _ _).trans hn,.inl rfl⟩
def E_z45:EnvP:=eQ [] 8 (some [2]) nC (fun x=>if x=0 then some [] else none) nP
def C_z45:Code:=cO Tryz.f45
def R_z45:Array ResultVar:=Tryz.f45.results
theorem qKe (n:Nat) (n0:Int) (o0:Lab):evFnP E_z45 n C_z45 R_z45 [.dat (.int .i64) n0 o0]=qDr n n0:=by
 kernel_rfl
theorem qoj:qe Gc Tryz.prog 45 s_z45:=by
 refine sQ (E:=E_z45) (c:=C_z45) rfl (fun w S hg=>qc) Tryz.func45 ?_
 intro avs r h
 unfold s_z45 at h
 split at h <;> cases h
 obtain ⟨n,hn⟩:=qEd _
 exact ⟨n,_,(qKe n _ _).trans hn,.inl rfl⟩
def qFC:EnvP:=eQ [] 19 (some [2]) nC (fun x=>if x=0 then some [] else none) nP
def qFD:Code:=cO Tryz.f133
def qKf:Array ResultVar:=Tryz.f133.results
theorem qFE (n:Nat) (charset0:Int) (o0:Lab):evFnP qFC n qFD qKf [.dat (.int .i64) charset0 o0]=qvr n charset0:=by
 kernel_rfl
theorem qtp:qe Gc Tryz.prog 133 s_z133:=by
 refine sQ (E:=qFC) (c:=qFD) rfl (fun w S hg=>qc) Tryz.func133 ?_
 intro avs r h
 unfold s_z133 at h
 split at h <;> cases h
 obtain ⟨n,hn⟩:=qAe _
 exact ⟨n,_,(qFE n _ _).trans hn,.inl rfl⟩
def E_z89:EnvP:=eQ [(133,s_z133)] 12 (some [2]) nC nC nP
def C_z89:Code:=cO Tryz.f89
def R_z89:Array ResultVar:=Tryz.f89.results
theorem qKg (n:Nat) (charset0:Int) (o0:Lab):evFnP E_z89 n C_z89 R_z89 [.dat (.int .i64) charset0 o0]=qDs n charset0:=by
 kernel_rfl
theorem qyo:qe Gc Tryz.prog 89 s_z89:=by
 refine sQ (E:=E_z89) (c:=C_z89) rfl (fun w S hg=>(qb (qtp w S hg) qc)) Tryz.func89 ?_
 intro avs r h
 unfold s_z89 at h
 split at h <;> cases h
 obtain ⟨n,hn⟩:=qEa _
 exact ⟨n,_,(qKg n _ _).trans hn,.inl rfl⟩
def E_z48:EnvP:=eQ [(45,s_z45),(89,s_z89)] 13 (some [4]) nC nC nP
def C_z48:Code:=cO Tryz.f48
def R_z48:Array ResultVar:=Tryz.f48.results
theorem qKh (n:Nat) (charset0:Int) (o0:Lab) (code1:Int) (o1:Lab):evFnP E_z48 n C_z48 R_z48 [.dat (.int .i64) charset0 o0,.dat (.int .i64) code1 o1]=qDt n charset0 code1:=by
 kernel_rfl
theorem qok:qe Gc Tryz.prog 48 s_z48:=by
 refine sQ (E:=E_z48) (c:=C_z48) rfl (fun w S hg=>(qb (qoj w S hg) (qb (qyo w S hg) qc))) Tryz.func48 ?_
 intro avs r h
 unfold s_z48 at h
 split at h <;> cases h
 obtain ⟨n,hn⟩:=qEe _ _
 exact ⟨n,_,(qKh n _ _ _ _).trans hn,.inl rfl⟩
def E_z17:EnvP:=eQ [(44,s_z44),(48,s_z48)] 11 (some [2]) nC nC nP
def C_z17:Code:=cO Tryz.f17
def R_z17:Array ResultVar:=Tryz.f17.results
theorem qKi (n:Nat) (charset0:Int) (o0:Lab):evFnP E_z17 n C_z17 R_z17 [.dat (.int .i64) charset0 o0]=qDu n charset0:=by
 kernel_rfl
theorem qyp:qe Gc Tryz.prog 17 s_z17:=by
 refine sQ (E:=E_z17) (c:=C_z17) rfl (fun w S hg=>(qb (qoi w S hg) (qb (qok w S hg) qc))) Tryz.func17 ?_
 intro avs r h
 unfold s_z17 at h
 split at h <;> cases h
 obtain ⟨n,hn⟩:=qEf _
 exact ⟨n,_,(qKi n _ _).trans hn,.inl rfl⟩
def qFF:EnvP:=eQ [] 13 (some [2]) nC (fun x=>if x=0 then some [] else none) nP
def qFG:Code:=cO Tryz.f161
def qKj:Array ResultVar:=Tryz.f161.results
theorem qFH (n:Nat) (charset0:Int) (o0:Lab):evFnP qFF n qFG qKj [.dat (.int .i64) charset0 o0]=qvt n charset0:=by
 kernel_rfl
theorem qkp:qe Gc Tryz.prog 161 s_z161:=by
 refine sQ (E:=qFF) (c:=qFG) rfl (fun w S hg=>qc) Tryz.func161 ?_
 intro avs r h
 unfold s_z161 at h
 split at h <;> cases h
 obtain ⟨n,hn⟩:=qAM _
 exact ⟨n,_,(qFH n _ _).trans hn,.inl rfl⟩
def qFI:EnvP:=eQ [] 6 (some [2]) nC nC nP
def qFJ:Code:=cO Tryz.f196
def qKk:Array ResultVar:=Tryz.f196.results
theorem qFK (n:Nat) (c0:Int) (o0:Lab):evFnP qFI n qFJ qKk [.dat (.int .i32) c0 o0]=qBE n c0:=by
 kernel_rfl
theorem qkq:qe Gc Tryz.prog 196 s_z196:=by
 refine sQ (E:=qFI) (c:=qFJ) rfl (fun w S hg=>qc) Tryz.func196 ?_
 intro avs r h
 unfold s_z196 at h
 split at h <;> cases h
 obtain ⟨n,hn⟩:=qAE _
 exact ⟨n,_,(qFK n _ _).trans hn,.inl rfl⟩
def qFL:EnvP:=eQ [] 10 (some [0]) nC nC nP
def qFM:Code:=cO Tryz.f185
def qKl:Array ResultVar:=Tryz.f185.results
theorem qFN (n:Nat)  : evFnP qFL n qFM qKl []=qBF n  := by
 kernel_rfl
theorem qtq:qe Gc Tryz.prog 185 s_z185:=by
 refine sQ (E:=qFL) (c:=qFM) rfl (fun w S hg=>qc) Tryz.func185 ?_
 intro avs r h
 unfold s_z185 at h
 split at h <;> cases h
 obtain ⟨n,hn⟩:=qAc
 exact ⟨n,_,(qFN n ).trans hn,.inl rfl⟩
def qil:EnvP:=eQ [(185,s_z185)] 31 (some [2,3]) (fun x=>if x=2 then some [0,6,7] else none) (fun x=>if x=0 then some [0] else if x=1 then some [0,6,7] else if x=2 then some [0,6,7] else none) nP
def qqY:Code:=cO Tryz.f205
def qFO:Array ResultVar:=Tryz.f205.results
noncomputable def qim (K:Ex→Fr→Option AV):=fun s2 s3=>K .ret (frOf [(2,(.dat .byte s2 none)),(3,(.dat .bool s3 none))])
noncomputable def qfU (K:Ex→Fr→Option AV):=fun c0=>K (.exit 0) (frOf [(0,(.dat (.int .i32) c0 none))])
def qin (n:Nat):Ex→Fr→Option AV:=qm 0 (qil.cutb 0) (kSeq (evCP qil (evLP qil n) (sub qqY [1,1])) (kFnP qil qFO))
def qlS (c0:Int) (s6:List (UInt8×(Int×Unit))) (s7:Int):Fr:=frOf [(0,(.dat (.int .i32) c0 none)),(6,(.dat (.arr 8 (.pair .byte (.pair (.int .i32) .unit))) s6 none)),(7,(.dat (.int .i64) s7 none))]
theorem qtr (K:Ex→Fr→Option AV):∀ (n:Nat) (c0:Int) (s6:List (UInt8×(Int×Unit))) (s7:Int),evLP qil n (sub qqY [1,0,1,0,0]) K (qlS c0 s6 s7)=qhv (qim K) (qfU K) n c0 s6 s7:=by
 intro n
 induction n with
 | zero=>intros; rfl
 | succ n IH =>
 intro c0 s6 s7
 have ih:(fun c0 s6 s7=>evLP qil n (sub qqY [1,0,1,0,0]) K (qlS c0 s6 s7))=qhv (qim K) (qfU K) n:=by
  funext c0 s6 s7
  exact IH c0 s6 s7
 show _=qpn (qim K) (qfU K) (qhv (qim K) (qfU K) n) n c0 s6 s7
 rw [← ih]
 kernel_rfl
theorem qlT (n:Nat) (c0:Int):(qin n) (.exit 0) (frOf [(0,(.dat (.int .i32) c0 none))])=qbO n c0:=by
 kernel_rfl
theorem qFP (n:Nat) (c0:Int) (o0:Lab):evFnP qil n qqY qFO [.dat (.int .i32) c0 o0]=qvw n c0:=by
 unfold qvw
 rw [show qhv qbz (qbO n) n=(fun c0 s6 s7=>evLP qil n (sub qqY [1,0,1,0,0]) (qin n) (qlS c0 s6 s7)) from by
  funext c0 s6 s7
  refine Eq.trans ?_ (qtr (qin n) n c0 s6 s7).symm
  rw [show (qfU (qin n))=(qbO n) from by
   funext c0
   exact qlT n c0]
  all_goals kernel_rfl]
 kernel_rfl
theorem qkr:qe Gc Tryz.prog 205 s_z205:=by
 refine sQ (E:=qil) (c:=qqY) rfl (fun w S hg=>(qb (qtq w S hg) qc)) Tryz.func205 ?_
 intro avs r h
 unfold s_z205 at h
 split at h <;> cases h
 obtain ⟨n,hn⟩:=qAA _
 exact ⟨n,_,(qFP n _ _).trans hn,.inl rfl⟩
def qFQ:EnvP:=eQ [(205,s_z205)] 11 (some [2]) nC nC nP
def qFR:Code:=cO Tryz.f197
def qKm:Array ResultVar:=Tryz.f197.results
theorem qFS (n:Nat) (c0:Int) (o0:Lab):evFnP qFQ n qFR qKm [.dat (.int .i32) c0 o0]=qBG n c0:=by
 kernel_rfl
theorem qts:qe Gc Tryz.prog 197 s_z197:=by
 refine sQ (E:=qFQ) (c:=qFR) rfl (fun w S hg=>(qb (qkr w S hg) qc)) Tryz.func197 ?_
 intro avs r h
 unfold s_z197 at h
 split at h <;> cases h
 obtain ⟨n,hn⟩:=qAB _
 exact ⟨n,_,(qFS n _ _).trans hn,.inl rfl⟩
def qFT:EnvP:=⟨⟨tiOf tis,fnsOf [],cnsOf [],[],4,(fun _=>none),(fun _=>none),some [0]⟩,fun _=>none,fun _=>none,(fun x=>if x=500002 then [1] else []),fun _=>none,fun _=>none,fun _=>none,fun _=>none⟩
def qFU:Code:=cO Tryz.f186
def qKn:Array ResultVar:=Tryz.f186.results
theorem qFV (n:Nat)  : evFnP qFT n qFU qKn []=qBH n  := by
 kernel_rfl
theorem qtt:qe Gc Tryz.prog 186 s_z186:=by
 refine qM qaP (E:=qFT) (fn:=Tryz.f186) (c:=qFU) (qw rfl qgZ) (fun w S hg=>⟨⟨qc,fun f sp h=>qcL f sp h w S⟩,qbb w S hg,(fun _ _ h=>by cases h),(fun f sp h=>qnt f sp h),(fun f it h=>qnu f it h),(fun t kt vt h=>qex t kt vt h)⟩) follows Tryz.func186 (by kernel_rfl) (by kernel_rfl) (by kernel_rfl) ?_
 intro avs r h
 unfold s_z186 at h
 split at h <;> cases h
 obtain ⟨n,hn⟩:=qAd
 exact ⟨n,_,(qFV n ).trans hn,.inl rfl⟩
def qio:EnvP:=eQ [] 19 (some [4]) (fun x=>if x=2 then some [0,1,7,8] else none) (fun x=>if x=0 then some [] else if x=1 then some [0,1,7,8] else none) nP
def qqZ:Code:=cO Tryz.f233
def qFW:Array ResultVar:=Tryz.f233.results
noncomputable def qip (K:Ex→Fr→Option AV):=fun s4=>K .ret (frOf [(4,(.dat (.int .i64) s4 none))])
def qiq (n:Nat):Ex→Fr→Option AV:=qm 0 (qio.cutb 0) (kSeq (evCP qio (evLP qio n) (sub qqZ [1,1])) (kFnP qio qFW))
def qlU (s0:List Int) (v1:Int) (s7:Int) (s8:Int):Fr:=frOf [(0,(.dat (.sl (.int .i32)) s0 none)),(1,(.dat (.int .i32) v1 none)),(7,(.dat (.int .i64) s7 none)),(8,(.dat (.int .i64) s8 none))]
theorem qtu (K:Ex→Fr→Option AV):∀ (n:Nat) (s0:List Int) (v1:Int) (s7:Int) (s8:Int),evLP qio n (sub qqZ [1,0,1,0,0]) K (qlU s0 v1 s7 s8)=qgi (qip K) (K (.exit 0) (frOf [])) n s0 v1 s7 s8:=by
 intro n
 induction n with
 | zero=>intros; rfl
 | succ n IH =>
 intro s0 v1 s7 s8
 have ih:(fun s0 v1 s7 s8=>evLP qio n (sub qqZ [1,0,1,0,0]) K (qlU s0 v1 s7 s8))=qgi (qip K) (K (.exit 0) (frOf [])) n:=by
  funext s0 v1 s7 s8
  exact IH s0 v1 s7 s8
 show _=qbP (qip K) (K (.exit 0) (frOf [])) (qgi (qip K) (K (.exit 0) (frOf [])) n) n s0 v1 s7 s8
 rw [← ih]
 kernel_rfl
theorem qlV (n:Nat)  : (qiq n) (.exit 0) (frOf [])=qdl n  := by
 kernel_rfl
theorem qFX (n:Nat) (s0:List Int) (o0:Lab) (v1:Int) (o1:Lab):evFnP qio n qqZ qFW [.dat (.sl (.int .i32)) s0 o0,.dat (.int .i32) v1 o1]=qpo n s0 v1:=by
 unfold qpo
 rw [show qgi qgh (qdl n) n=(fun s0 v1 s7 s8=>evLP qio n (sub qqZ [1,0,1,0,0]) (qiq n) (qlU s0 v1 s7 s8)) from by
  funext s0 v1 s7 s8
  refine Eq.trans ?_ (qtu (qiq n) n s0 v1 s7 s8).symm
  rw [show ((qiq n) (.exit 0) (frOf []))=(qdl n) from by
   exact qlV n ]
  all_goals kernel_rfl]
 kernel_rfl
theorem qtv:qe Gc Tryz.prog 233 s_z233:=by
 refine sQ (E:=qio) (c:=qqZ) rfl (fun w S hg=>qc) Tryz.func233 ?_
 intro avs r h
 unfold s_z233 at h
 split at h
 ·obtain ⟨hp,rfl⟩:=Prod.mk.inj h
  obtain ⟨n,hn⟩:=qAq _ _ hp
  exact ⟨n,_,(qFX n _ _ _ _).trans hn,.inl rfl⟩
 ·cases h
def qFY:EnvP:=eQ [(186,s_z186),(233,s_z233)] 31 (some [2,3]) nC (fun x=>if x=0 then some [0] else none) nP
def qFZ:Code:=cO Tryz.f207
def qKo:Array ResultVar:=Tryz.f207.results
theorem qGa (n:Nat) (c0:Int) (o0:Lab):evFnP qFY n qFZ qKo [.dat (.int .i32) c0 o0]=qvz n c0:=by
 kernel_rfl
theorem qks:qe Gc Tryz.prog 207 s_z207:=by
 refine sQ (E:=qFY) (c:=qFZ) rfl (fun w S hg=>(qb (qtt w S hg) (qb (qtv w S hg) qc))) Tryz.func207 ?_
 intro avs r h
 unfold s_z207 at h
 split at h <;> cases h
 obtain ⟨n,hn⟩:=qAC _
 exact ⟨n,_,(qGa n _ _).trans hn,.inl rfl⟩
end
end Go.Av
