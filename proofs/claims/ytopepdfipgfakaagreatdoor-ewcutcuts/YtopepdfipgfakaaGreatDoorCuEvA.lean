import Derived.Test.YtopepdfipgfakaaGreatDoorCuP7
import Derived.Test.YtopepdfipgfakaaGreatDoorCuC
import Derived.Test.YtopepdfipgfakaaGreatDoorProg
import Derived.KernelRfl
namespace Go.Av
set_option linter.unusedSimpArgs false
noncomputable section
open Go.Proofs
set_option maxRecDepth 100000
set_option linter.unusedVariables false
def tis:List (TypeId×TI):=[(2,⟨some (.int .i64),8,0⟩),
 (3,⟨some (.int .i64),8,0⟩),
 (4,⟨some .bool,1,0⟩),
 (5,⟨some .byte,1,0⟩),
 (6,⟨some .byte,1,0⟩),
 (7,⟨some (.pair (.int .i64) (.pair (.int .i64) (.pair .bool (.pair .byte .unit)))),24,0⟩),
 (8,⟨some (.pair (.int .i64) (.pair (.int .i64) (.pair .bool (.pair .byte .unit)))),24,0⟩),
 (9,⟨some .str,16,0⟩),
 (10,⟨some .str,16,0⟩),
 (11,⟨some .str,16,0⟩),
 (12,⟨some (.int .u64),8,0⟩),
 (13,⟨some (.pair .str (.pair (.int .u64) .unit)),24,0⟩),
 (14,⟨some (.pair .str (.pair (.int .u64) .unit)),24,0⟩),
 (21,⟨some (.int .i32),4,0⟩),
 (22,⟨some (.sl .byte),24,5⟩),
 (24,⟨some (.pair (.sl .byte) (.pair (.int .i64) (.pair (.sl .byte) .unit))),56,0⟩),
 (25,⟨some (.pair (.sl .byte) (.pair (.int .i64) (.pair (.sl .byte) .unit))),56,0⟩),
 (26,⟨some (.int .i64),8,0⟩),
 (29,⟨some (.pair (.sl .byte) (.pair (.int .i64) (.pair (.sl .byte) .unit))),56,0⟩),
 (40,⟨some (.sl (.int .i32)),24,21⟩),
 (46,⟨some (.arr 3 (.int .i64)),24,3⟩),
 (47,⟨some (.sl (.sl (.int .i32))),24,40⟩),
 (57,⟨some (.sl (.sl .byte)),24,22⟩),
 (106,⟨some (.sl .str),24,9⟩),
 (109,⟨some (.sl (.int .i64)),24,3⟩),
 (133,⟨some (.int .u64),8,0⟩),
 (156,⟨some (.int .u32),4,0⟩),
 (159,⟨some (.int .u64),8,0⟩),
 (162,⟨some (.pair .byte (.pair (.int .i32) .unit)),8,0⟩),
 (163,⟨some (.pair .byte (.pair (.int .i32) .unit)),8,0⟩),
 (164,⟨some (.arr 8 (.pair .byte (.pair (.int .i32) .unit))),64,163⟩),
 (177,⟨some .unit,0,0⟩),
 (178,⟨some .unit,0,0⟩),
 (179,⟨some .unit,0,0⟩),
 (187,⟨some (.arr 32 (.int .i32)),128,21⟩),
 (190,⟨some (.arr 256 .bool),256,4⟩),
 (191,⟨some (.arr 256 .bool),256,4⟩),
 (196,⟨some (.arr 32 .byte),32,5⟩),
 (197,⟨some (.arr 64 .byte),64,5⟩),
 (199,⟨some (.arr 256 .byte),256,5⟩),
 (200,⟨some (.pair .byte (.pair .byte .unit)),2,0⟩),
 (201,⟨some (.pair .byte (.pair .byte .unit)),2,0⟩),
 (202,⟨some (.arr 16 (.pair .byte (.pair .byte .unit))),32,201⟩),
 (213,⟨some .byte,1,0⟩),
 (214,⟨some .byte,1,0⟩),
 (217,⟨some (.int .i32),4,0⟩),
 (218,⟨some (.int .i32),4,0⟩)]
theorem qgQ:(tis.all fun p=>tyB Tryz.prog (tiOf tis) p.1)=true:=by kernel_rfl
theorem follows:Tryz.prog.follows .mixedOrders=true:=by kernel_rfl
abbrev FnL:=List (FuncId×(List AV→Bool×AV))
abbrev CutL:=Nat→Option (List Nat)
def eQ (l:FnL) (nt:Nat) (r:Option (List Nat)) (a b:CutL) (p:Nat→Option PSh):EnvP:=⟨⟨tiOf tis,fnsOf l,cnsOf [],[],nt,a,b,r⟩,p,fun _=>none,fun _=>[],fun _=>none,fun _=>none,fun _=>none,fun _=>none⟩
def cO (f:Func):Code:=f.body.getD .skip
def nC:CutL:=fun _=>none
def nP:Nat→Option PSh:=fun _=>none
theorem sQ {E:EnvP} {l:FnL} {nt:Nat} {r:Option (List Nat)} {a b:CutL} {p:Nat→Option PSh} {f:FuncId} {fn:Func} {c:Code} {spec:List AV→Bool×AV} (hE:E=eQ l nt r a b p) (hl:∀ w S,Gc w S→∀ f,qal Tryz.prog f (fnsOf l f) w S)
 (hf:Tryz.prog.funcs[f]? = some fn) (hspec:∀ avs r',spec avs=(true,r')→∃ n v,evFnP E n c fn.results avs=some v∧(v=r'∨v.strip=r')) (hb:fn.body=some c:=by kernel_rfl) (hnt:fn.ntmps=nt:=by kernel_rfl) (hname:(fn.name == "runtime.NumGoroutine")=false:=by kernel_rfl):qe Gc Tryz.prog f spec:=by
 subst hE
 exact qM qaM (E:=eQ l nt r a b p) (qw rfl qgQ) (fun w S hg=>⟨⟨hl w S hg,fun f sp h=>qcH f sp h w S⟩,qaZ w S hg,(fun _ _ h=>by cases h),(fun f sp h=>qmX f sp h),(fun f it h=>qmY f it h),(fun t kt vt h=>qer t kt vt h)⟩) follows hf hb hnt hname hspec
def s_z21:List AV→Bool×AV
 | [.dat (.sl (.int .i32)) a0 _,.dat (.sl (.int .i32)) a1 _]=>(qAz a0 a1,(.dat .bool (z21 a0 a1) none))
 | _=>(false,.bad)
def s_z44:List AV→Bool×AV
 | [.dat (.int .i64) a0 _]=>(true,(.dat .bool (z44 a0) none))
 | _=>(false,.bad)
def s_z45:List AV→Bool×AV
 | [.dat (.int .i64) a0 _]=>(true,(.dat .str (z45 a0) none))
 | _=>(false,.bad)
def s_z133:List AV→Bool×AV
 | [.dat (.int .i64) a0 _]=>(true,(.dat (.sl .str) (z133 a0) (some (2,9))))
 | _=>(false,.bad)
def s_z89:List AV→Bool×AV
 | [.dat (.int .i64) a0 _]=>(true,(.dat .str (z89 a0) none))
 | _=>(false,.bad)
def s_z48:List AV→Bool×AV
 | [.dat (.int .i64) a0 _,.dat (.int .i64) a1 _]=>(true,(.dat .str (z48 a0 a1) none))
 | _=>(false,.bad)
def s_z17:List AV→Bool×AV
 | [.dat (.int .i64) a0 _]=>(true,(.dat (.int .i64) (z17 a0) none))
 | _=>(false,.bad)
def s_z161:List AV→Bool×AV
 | [.dat (.int .i64) a0 _]=>(true,(.dat (.int .i64) (z161 a0) none))
 | _=>(false,.bad)
def s_z196:List AV→Bool×AV
 | [.dat (.int .i32) a0 _]=>(true,(.dat .bool (z196 a0) none))
 | _=>(false,.bad)
def s_z185:List AV→Bool×AV
 | []=>(true,(.dat (.arr 8 (.pair .byte (.pair (.int .i32) .unit))) z185 none))
 | _=>(false,.bad)
def s_z205:List AV→Bool×AV
 | [.dat (.int .i32) a0 _]=>(true,(.tup [(.dat .byte ((z205 a0).1) none),(.dat .bool ((z205 a0).2) none)]))
 | _=>(false,.bad)
def s_z197:List AV→Bool×AV
 | [.dat (.int .i32) a0 _]=>(true,(.dat .bool (z197 a0) none))
 | _=>(false,.bad)
def s_z186:List AV→Bool×AV
 | []=>(true,(.dat (.sl (.int .i32)) z186 none))
 | _=>(false,.bad)
def s_z233:List AV→Bool×AV
 | [.dat (.sl (.int .i32)) a0 _,.dat (.int .i32) a1 _]=>(qeE a0 a1,(.dat (.int .i64) (z233 a0 a1) none))
 | _=>(false,.bad)
def s_z207:List AV→Bool×AV
 | [.dat (.int .i32) a0 _]=>(true,(.tup [(.dat .byte ((z207 a0).1) none),(.dat .bool ((z207 a0).2) none)]))
 | _=>(false,.bad)
def s_z198:List AV→Bool×AV
 | [.dat (.int .i32) a0 _]=>(true,(.dat .bool (z198 a0) none))
 | _=>(false,.bad)
def s_z230:List AV→Bool×AV
 | [.dat (.int .i32) a0 _]=>(true,(.dat .bool (z230 a0) none))
 | _=>(false,.bad)
def s_z199:List AV→Bool×AV
 | [.dat (.int .i32) a0 _]=>(true,(.dat .bool (z199 a0) none))
 | _=>(false,.bad)
def s_z157:List AV→Bool×AV
 | [.dat (.int .i64) a0 _,.dat (.int .i32) a1 _]=>(true,(.dat .bool (z157 a0 a1) none))
 | _=>(false,.bad)
def s_z202:List AV→Bool×AV
 | [.dat (.int .i64) a0 _,.dat (.sl (.int .i32)) a1 _]=>(qpA a0 a1,(.dat (.int .i64) (z202 a0 a1) none))
 | _=>(false,.bad)
def s_z162:List AV→Bool×AV
 | [.dat (.int .i64) a0 _,.dat (.sl (.int .i32)) a1 _]=>(qpB a0 a1,(.dat .bool (z162 a0 a1) none))
 | _=>(false,.bad)
def s_z243:List AV→Bool×AV
 | [.dat (.int .i32) a0 _]=>(true,(.dat .bool (z243 a0) none))
 | _=>(false,.bad)
def s_z242:List AV→Bool×AV
 | [.dat (.sl (.int .i32)) a0 _,.fn 243 []]=>(qpq a0,(.dat (.int .i64) (z242 a0) none))
 | _=>(false,.bad)
def s_z231:List AV→Bool×AV
 | [.dat (.sl (.int .i32)) a0 _]=>(qpr a0,(.dat (.int .i64) (z231 a0) none))
 | _=>(false,.bad)
def s_z203:List AV→Bool×AV
 | [.dat (.sl (.int .i32)) a0 _]=>(qps a0,(.dat .bool (z203 a0) none))
 | _=>(false,.bad)
def s_z38:List AV→Bool×AV
 | [.dat (.sl .byte) a0 _]=>(qws a0,(.dat (.sl .byte) (z38 a0) (some (0,5))))
 | _=>(false,.bad)
def s_z218:List AV→Bool×AV
 | [.dat (.int .i64) a0 _]=>(true,(.dat .byte (z218 a0) none))
 | _=>(false,.bad)
def s_z232:List AV→Bool×AV
 | [.dat (.int .i32) a0 _]=>(true,(.dat (.int .i64) (z232 a0) none))
 | _=>(false,.bad)
def s_z204:List AV→Bool×AV
 | [.dat (.sl .byte) a0 _,.dat (.int .i32) a1 _]=>(qpt a0 a1,(.tup [(.dat (.sl .byte) ((z204 a0 a1).1) none),(.dat (.int .i64) ((z204 a0 a1).2) none)]))
 | _=>(false,.bad)
def s_z163:List AV→Bool×AV
 | [.dat (.sl (.int .i32)) a0 _]=>(qpz a0,(.tup [(.dat (.sl .byte) ((z163 a0).1) none),(.dat (.int .i64) ((z163 a0).2) none)]))
 | _=>(false,.bad)
def s_z164:List AV→Bool×AV
 | [.dat (.sl (.int .i32)) a0 _]=>(qpx a0,(.tup [(.dat (.sl .byte) ((z164 a0).1) none),(.dat (.int .i64) ((z164 a0).2) none)]))
 | _=>(false,.bad)
def s_z206:List AV→Bool×AV
 | [.dat (.sl (.int .i32)) a0 _]=>(qpu a0,(.dat (.int .i64) (z206 a0) none))
 | _=>(false,.bad)
def s_z165:List AV→Bool×AV
 | [.dat (.sl (.int .i32)) a0 _]=>(qpy a0,(.tup [(.dat (.sl .byte) ((z165 a0).1) none),(.dat (.int .i64) ((z165 a0).2) none)]))
 | _=>(false,.bad)
def s_z208:List AV→Bool×AV
 | [.dat (.sl (.int .i32)) a0 _]=>(qpv a0,(.dat (.int .i64) (z208 a0) none))
 | _=>(false,.bad)
def s_z166:List AV→Bool×AV
 | [.dat (.sl (.int .i32)) a0 _]=>(qpw a0,(.tup [(.dat (.sl .byte) ((z166 a0).1) none),(.dat (.int .i64) ((z166 a0).2) none)]))
 | _=>(false,.bad)
def s_z120:List AV→Bool×AV
 | [.dat (.int .i64) a0 _,.dat (.sl (.int .i32)) a1 _]=>(qho a0 a1,(.tup [(.dat (.sl .byte) ((z120 a0 a1).1) none),(.dat (.int .i64) ((z120 a0 a1).2) none)]))
 | _=>(false,.bad)
def s_z214:List AV→Bool×AV
 | [.dat .byte a0 _]=>(true,(.dat (.int .i64) (z214 a0) none))
 | _=>(false,.bad)
def s_z241:List AV→Bool×AV
 | [.dat .str a0 _,.dat .byte a1 _]=>(true,(.dat (.int .i64) (z241 a0 a1) none))
 | _=>(false,.bad)
def s_z229:List AV→Bool×AV
 | [.dat .str a0 _,.dat .byte a1 _]=>(true,(.dat (.int .i64) (z229 a0 a1) none))
 | _=>(false,.bad)
def s_z192:List AV→Bool×AV
 | [.dat .str a0 _,.dat .byte a1 _]=>(true,(.dat (.int .i64) (z192 a0 a1) none))
 | _=>(false,.bad)
def s_z215:List AV→Bool×AV
 | [.dat .str a0 _,.dat .byte a1 _]=>(true,(.dat .bool (z215 a0 a1) none))
 | _=>(false,.bad)
def s_z180:List AV→Bool×AV
 | [.dat .byte a0 _]=>(true,(.dat (.int .i64) (z180 a0) none))
 | _=>(false,.bad)
def s_z129:List AV→Bool×AV
 | [.dat .byte a0 _,.dat (.int .i64) a1 _]=>(true,(.dat .bool (z129 a0 a1) none))
 | _=>(false,.bad)
def s_z84:List AV→Bool×AV
 | [.dat .byte a0 _]=>(true,(.dat (.int .i64) (z84 a0) none))
 | _=>(false,.bad)
def s_z83:List AV→Bool×AV
 | [.dat (.sl .byte) a0 _]=>(qgT a0,(.dat (.int .i64) (z83 a0) none))
 | _=>(false,.bad)
def s_z87:List AV→Bool×AV
 | [.dat (.int .i64) a0 _]=>(true,(.dat (.int .i64) (z87 a0) none))
 | _=>(false,.bad)
def s_z154:List AV→Bool×AV
 | [.iface 178 (.dat .unit () none),.dat (.sl .byte) a1 _]=>(qey a1,.tup [.dat (.int .i64) (z87 ((List.length a1:Nat):Int)) none,.dat .bool true none])
 | [.iface 179 (.dat .unit () none),.dat (.sl .byte) a1 _]=>(qey a1,.tup [.dat (.int .i64) (z83 a1) none,.dat .bool true none])
 | [.nilIface,.dat (.sl .byte) a1 _]=>(true,.tup [.dat (.int .i64) (0:Int) none,.dat .bool false none])
 | _=>(false,.bad)
def s_z154_v0:List AV→Bool×AV
 | [.iface 178 (.dat .unit () none),.dat (.sl .byte) a1 _]=>(true,.tup [.dat (.int .i64) (z87 ((List.length a1:Nat):Int)) none,.dat .bool true none])
 | _=>(false,.bad)
def s_z154_v1:List AV→Bool×AV
 | [.iface 179 (.dat .unit () none),.dat (.sl .byte) a1 _]=>(qey a1,.tup [.dat (.int .i64) (z83 a1) none,.dat .bool true none])
 | _=>(false,.bad)
def s_z154_v2:List AV→Bool×AV
 | [.nilIface,.dat (.sl .byte) a1 _]=>(true,.tup [.dat (.int .i64) (0:Int) none,.dat .bool false none])
 | _=>(false,.bad)
def s_z194:List AV→Bool×AV
 | [.dat .unit a0 _]=>(true,(.dat (.int .i64) (z194 a0) none))
 | _=>(false,.bad)
def s_z195:List AV→Bool×AV
 | [.dat .unit a0 _]=>(true,(.dat (.int .i64) (z195 a0) none))
 | _=>(false,.bad)
def s_z155:List AV→Bool×AV
 | [.dat (.int .i64) a0 _]=>(true,z155 a0)
 | _=>(false,.bad)
def s_z112:List AV→Bool×AV
 | [.dat (.int .i64) a0 _,.dat (.int .i64) a1 _,.dat (.sl (.int .i32)) a2 _]=>(qez a0 a1 a2,(.tup [(.dat (.int .i64) ((z112 a0 a1 a2).1) none),(.dat (.int .i64) ((z112 a0 a1 a2).2) none)]))
 | _=>(false,.bad)
def s_z66:List AV→Bool×AV
 | [.dat (.int .i64) a0 _,.dat (.int .i64) a1 _,.dat (.sl (.int .i32)) a2 _]=>(qqN a0 a1 a2,(.tup [(.dat (.int .i64) ((z66 a0 a1 a2).1) none),(.dat (.int .i64) ((z66 a0 a1 a2).2) none)]))
 | _=>(false,.bad)
def s_z156:List AV→Bool×AV
 | [.dat (.int .i64) a0 _,.dat (.int .i64) a1 _,.dat (.sl (.int .i32)) a2 _,.dat (.int .i64) a3 _]=>(qoo a0 a1 a2 a3,(.dat .bool (z156 a0 a1 a2 a3) none))
 | _=>(false,.bad)
def s_z114:List AV→Bool×AV
 | [.dat (.int .i64) a0 _,.dat (.int .i64) a1 _,.dat (.sl (.int .i32)) a2 _,.dat (.int .i64) a3 _]=>(qop a0 a1 a2 a3,(.dat (.int .i64) (z114 a0 a1 a2 a3) none))
 | _=>(false,.bad)
def s_z113:List AV→Bool×AV
 | [.abs s V x,.pbox (.leaf (.sl (.int .i32))) b0 none,.pbox (.leaf (.int .i64)) b1 none,.pbox (.leaf (.int .i64)) b2 none,.pbox (.leaf (.int .i64)) b3 none]=>((z113 (fun x a0=>V.spec x [⟨(.sl (.int .i32)),a0⟩]) x b0 b1 b2 b3).1,.tup [.tup [],.abs s V (z113 (fun x a0=>V.spec x [⟨(.sl (.int .i32)),a0⟩]) x b0 b1 b2 b3).2.1,.pbox (.leaf (.sl (.int .i32))) ((z113 (fun x a0=>V.spec x [⟨(.sl (.int .i32)),a0⟩]) x b0 b1 b2 b3).2.2.1) none,.pbox (.leaf (.int .i64)) ((z113 (fun x a0=>V.spec x [⟨(.sl (.int .i32)),a0⟩]) x b0 b1 b2 b3).2.2.2.1) none,.pbox (.leaf (.int .i64)) ((z113 (fun x a0=>V.spec x [⟨(.sl (.int .i32)),a0⟩]) x b0 b1 b2 b3).2.2.2.2.1) none,.pbox (.leaf (.int .i64)) ((z113 (fun x a0=>V.spec x [⟨(.sl (.int .i32)),a0⟩]) x b0 b1 b2 b3).2.2.2.2.2) none])
 | _=>(false,.bad)
def qAJ:Iter:=⟨[.leaf (.sl (.int .i32)),.leaf (.int .i64),.leaf (.int .i64),.leaf (.int .i64)],fun s spec x y=>((z113 (fun x a0=>spec x [⟨(.sl (.int .i32)),a0⟩]) x y.1 y.2.1 y.2.2.1 y.2.2.2.1).1,(z113 (fun x a0=>spec x [⟨(.sl (.int .i32)),a0⟩]) x y.1 y.2.1 y.2.2.1 y.2.2.2.1).2.1)⟩
def s_z67:List AV→Bool×AV
 | [.dat (.int .i64) a0 _,.dat (.int .i64) a1 _,.dat (.sl (.int .i32)) a2 _,.dat (.int .i64) a3 _]=>(true,(.abs (qdP [.leaf (.sl (.int .i32)),.leaf (.int .i64),.leaf (.int .i64),.leaf (.int .i64)]) (clInv 113 [.leaf (.sl (.int .i32)),.leaf (.int .i64),.leaf (.int .i64),.leaf (.int .i64)]) (a2,(a0,(a1,(a3,()))))))
 | _=>(false,.bad)
def s_z68:List AV→Bool×AV
 | [.dat (.sl (.int .i32)) a0 _]=>(qCc a0,(.dat (.sl (.int .i32)) (z68 a0) none))
 | _=>(false,.bad)
def s_z28:List AV→Bool×AV
 | [.dat (.int .i64) a0 _,.dat (.int .i64) a1 _,.dat (.sl (.int .i32)) a2 _,.dat (.int .i64) a3 _]=>(qqP a0 a1 a2 a3,(.tup [(.dat (.sl (.sl (.int .i32))) ((z28 a0 a1 a2 a3).1) none),(.dat (.int .i64) ((z28 a0 a1 a2 a3).2) none)]))
 | _=>(false,.bad)
def s_z116:List AV→Bool×AV
 | [.dat (.int .i32) a0 _]=>(true,(.dat (.int .i64) (z116 a0) none))
 | _=>(false,.bad)
def s_z201:List AV→Bool×AV
 | [.dat (.int .u64) a0 _]=>(quk a0,(.dat (.int .i64) (z201 a0) none))
 | _=>(false,.bad)
def s_z158:List AV→Bool×AV
 | [.dat (.int .u64) a0 _]=>(qor a0,(.dat (.int .i64) (z158 a0) none))
 | _=>(false,.bad)
def s_z117:List AV→Bool×AV
 | [.dat (.int .i64) a0 _]=>(qos a0,(.dat (.int .i64) (z117 a0) none))
 | _=>(false,.bad)
def s_z71:List AV→Bool×AV
 | [.dat (.sl (.int .i32)) a0 _]=>(qyn a0,(.tup [(.dat (.int .i64) ((z71 a0).1) none),(.dat (.int .i64) ((z71 a0).2) none)]))
 | _=>(false,.bad)
def s_z159:List AV→Bool×AV
 | [.dat (.int .i64) a0 _,.dat (.int .i64) a1 _,.dat (.sl (.int .i32)) a2 _]=>(qhc a0 a1 a2,(.dat (.int .i64) (z159 a0 a1 a2) none))
 | _=>(false,.bad)
def s_z118:List AV→Bool×AV
 | [.dat (.int .i64) a0 _,.dat (.sl (.int .i32)) a1 _]=>(qon a0 a1,(.dat (.int .i64) (z118 a0 a1) none))
 | _=>(false,.bad)
def s_z72:List AV→Bool×AV
 | [.dat (.int .i64) a0 _,.dat (.sl (.int .i32)) a1 _]=>(qyk a0 a1,(.tup [(.dat (.int .i64) ((z72 a0 a1).1) none),(.dat (.int .i64) ((z72 a0 a1).2) none)]))
 | _=>(false,.bad)
def s_z30:List AV→Bool×AV
 | [.dat (.sl (.int .i32)) a0 _]=>(qqQ a0,(.tup [(.dat (.int .i64) ((z30 a0).1) none),(.dat (.int .i64) ((z30 a0).2.1) none),(.dat (.int .i64) ((z30 a0).2.2) none)]))
 | _=>(false,.bad)
def s_z181:List AV→Bool×AV
 | [.dat (.int .i64) a0 _]=>(qcl a0,(.dat .byte (z181 a0) none))
 | _=>(false,.bad)
def s_z130:List AV→Bool×AV
 | [.dat .byte a0 _]=>(true,(.dat (.sl .byte) (z130 a0) (some (2,5))))
 | _=>(false,.bad)
def s_z85:List AV→Bool×AV
 | [.dat (.sl .byte) a0 _,.dat .byte a1 _,.dat .byte a2 _]=>(qAv a0 a1 a2,(.dat (.sl .byte) (z85 a0 a1 a2) (some (6,5))))
 | _=>(false,.bad)
def s_z46:List AV→Bool×AV
 | [.dat (.sl .byte) a0 _]=>(qAx a0,(.dat (.sl .byte) (z46 a0) (some (2,5))))
 | _=>(false,.bad)
def s_z132:List AV→Bool×AV
 | [.dat (.int .i64) a0 _]=>(true,(.dat .byte (z132 a0) none))
 | _=>(false,.bad)
def s_z88:List AV→Bool×AV
 | [.dat (.sl .byte) a0 _]=>(qIJ a0,(.dat (.sl .byte) (z88 a0) (some (2,5))))
 | _=>(false,.bad)
def s_z47:List AV→Bool×AV
 | [.dat (.sl .byte) a0 _]=>(qDO a0,(.dat (.sl .byte) (z47 a0) none))
 | _=>(false,.bad)
def s_z15:List AV→Bool×AV
 | [.dat (.int .i64) a0 _,.dat (.int .i64) a1 _,.dat (.sl .byte) a2 _]=>(qAy a0 a1 a2,(.tup [(.dat (.sl .byte) ((z15 a0 a1 a2).1) none),(.dat (.int .i64) ((z15 a0 a1 a2).2) none)]))
 | _=>(false,.bad)
def s_z75:List AV→Bool×AV
 | [.dat (.int .i64) a0 _,.dat (.int .i64) a1 _,.dat (.sl (.int .i32)) a2 _]=>(qys a0 a1 a2,(.tup [(.dat (.sl .byte) ((z75 a0 a1 a2).1) none),(.dat (.int .i64) ((z75 a0 a1 a2).2) none)]))
 | _=>(false,.bad)
def s_z32:List AV→Bool×AV
 | [.dat (.sl (.int .i32)) a0 _,.dat (.int .i64) a1 _]=>(qmm a0 a1,(.tup [(.dat (.sl (.sl .byte)) ((z32 a0 a1).1) none),(.dat (.int .i64) ((z32 a0 a1).2) none)]))
 | _=>(false,.bad)
def s_z77:List AV→Bool×AV
 | [.dat (.sl (.sl .byte)) a0 _,.dat (.sl .byte) a1 _]=>(qqR a0 a1,(.dat (.sl .byte) (z77 a0 a1) none))
 | _=>(false,.bad)
def s_z34:List AV→Bool×AV
 | [.dat (.sl (.int .i32)) a0 _,.dat (.int .i64) a1 _]=>(qCd a0 a1,(.tup [(.dat (.sl .byte) ((z34 a0 a1).1) none),(.dat (.int .i64) ((z34 a0 a1).2) none)]))
 | _=>(false,.bad)
def s_z36:List AV→Bool×AV
 | [.dat (.sl (.int .i32)) a0 _,.dat (.int .i64) a1 _]=>(qCe a0 a1,(.dat (.int .i64) (z36 a0 a1) none))
 | _=>(false,.bad)
def s_z27:List AV→Bool×AV
 | []=>(true,(.dat .bool z27 none))
 | _=>(false,.bad)
def s_z92:List AV→Bool×AV
 | [.dat (.int .i64) a0 _]=>(true,(.dat (.sl .str) (z92 a0) (some (2,9))))
 | _=>(false,.bad)
def s_z51:List AV→Bool×AV
 | [.dat (.int .i64) a0 _]=>(true,(.dat .str (z51 a0) none))
 | _=>(false,.bad)
def s_z18:List AV→Bool×AV
 | [.dat (.int .i64) a0 _]=>(true,(.dat (.int .i64) (z18 a0) none))
 | _=>(false,.bad)
def s_z134:List AV→Bool×AV
 | [.dat (.sl .byte) a0 _]=>(qkR a0,(.dat (.sl (.int .i64)) (z134 a0) (some (2,3))))
 | _=>(false,.bad)
def s_z135:List AV→Bool×AV
 | [.dat (.int .i64) a0 _]=>(true,(.dat .byte (z135 a0) none))
 | _=>(false,.bad)
def s_z136:List AV→Bool×AV
 | [.dat (.sl (.int .i64)) a0 _]=>(qhp a0,(.dat (.int .i64) (z136 a0) none))
 | _=>(false,.bad)
def s_z90:List AV→Bool×AV
 | [.dat (.sl .byte) a0 _]=>(qwp a0,(.dat (.sl .byte) (z90 a0) (some (2,5))))
 | _=>(false,.bad)
def s_z49:List AV→Bool×AV
 | [.dat (.sl .byte) a0 _]=>(qrd a0,(.dat (.sl .byte) (z49 a0) (some (2,5))))
 | _=>(false,.bad)
def s_z179:List AV→Bool×AV
 | [.dat .str a0 _,.dat .byte a1 _]=>(qBj a0 a1,(.dat .bool (z179 a0 a1) none))
 | _=>(false,.bad)
def s_z128:List AV→Bool×AV
 | [.dat .byte a0 _]=>(true,(.dat (.int .i64) (z128 a0) none))
 | _=>(false,.bad)
def s_z82:List AV→Bool×AV
 | [.dat .byte a0 _,.dat (.int .i64) a1 _]=>(true,(.dat .bool (z82 a0 a1) none))
 | _=>(false,.bad)
def s_z184:List AV→Bool×AV
 | [.dat (.int .i64) a0 _]=>(qcm a0,(.dat .byte (z184 a0) none))
 | _=>(false,.bad)
def s_z137:List AV→Bool×AV
 | [.dat (.sl .byte) a0 _,.dat .byte a1 _,.dat .byte a2 _]=>(qpp a0 a1 a2,(.dat (.sl .byte) (z137 a0 a1 a2) (some (6,5))))
 | _=>(false,.bad)
def s_z91:List AV→Bool×AV
 | [.dat .byte a0 _]=>(true,(.dat (.sl .byte) (z91 a0) (some (2,5))))
 | _=>(false,.bad)
def s_z50:List AV→Bool×AV
 | [.dat (.sl .byte) a0 _]=>(qrc a0,(.dat (.sl .byte) (z50 a0) (some (2,5))))
 | _=>(false,.bad)
def s_z210:List AV→Bool×AV
 | [.dat .byte a0 _]=>(true,(.dat (.int .i32) (z210 a0) none))
 | _=>(false,.bad)
def s_z168:List AV→Bool×AV
 | [.dat (.int .i32) a0 _]=>(true,(.tup [(.dat .byte ((z168 a0).1) none),(.dat .bool ((z168 a0).2) none)]))
 | _=>(false,.bad)
def s_z64:List AV→Bool×AV
 | [.dat .byte a0 _]=>(true,(.dat (.int .i32) (z64 a0) none))
 | _=>(false,.bad)
def s_z169:List AV→Bool×AV
 | [.dat (.int .i32) a0 _]=>(true,(.tup [(.dat .byte ((z169 a0).1) none),(.dat .bool ((z169 a0).2) none)]))
 | _=>(false,.bad)
def s_z65:List AV→Bool×AV
 | [.dat .byte a0 _]=>(true,(.dat (.int .i32) (z65 a0) none))
 | _=>(false,.bad)
def s_z170:List AV→Bool×AV
 | [.dat (.int .i32) a0 _]=>(true,(.tup [(.dat .byte ((z170 a0).1) none),(.dat .bool ((z170 a0).2) none)]))
 | _=>(false,.bad)
def s_z234:List AV→Bool×AV
 | [.dat (.int .i32) a0 _]=>(true,(.dat .bool (z234 a0) none))
 | _=>(false,.bad)
def s_z209:List AV→Bool×AV
 | [.dat (.int .i32) a0 _]=>(true,(.dat .bool (z209 a0) none))
 | _=>(false,.bad)
def s_z167:List AV→Bool×AV
 | [.dat (.int .i64) a0 _,.dat (.int .i32) a1 _]=>(true,(.dat .bool (z167 a0 a1) none))
 | _=>(false,.bad)
def s_z171:List AV→Bool×AV
 | [.dat (.int .i32) a0 _]=>(true,(.dat (.sl .byte) (z171 a0) (some (2,5))))
 | _=>(false,.bad)
def s_z121:List AV→Bool×AV
 | [.dat (.int .i64) a0 _,.dat (.int .i32) a1 _]=>(true,(.dat (.sl .byte) (z121 a0 a1) (some (4,5))))
 | _=>(false,.bad)
def s_z76:List AV→Bool×AV
 | [.dat (.int .i64) a0 _,.dat (.sl (.int .i32)) a1 _]=>(qAw a0 a1,(.tup [(.dat (.sl .byte) ((z76 a0 a1).1) none),(.dat (.int .i64) ((z76 a0 a1).2) none)]))
 | _=>(false,.bad)
def s_z69:List AV→Bool×AV
 | [.dat (.int .i64) a0 _,.dat (.int .i64) a1 _,.dat (.sl (.int .i32)) a2 _]=>(qgR a0 a1 a2,(.tup [(.dat (.int .i64) ((z69 a0 a1 a2).1) none),(.dat (.int .i64) ((z69 a0 a1 a2).2) none)]))
 | _=>(false,.bad)
def s_z115:List AV→Bool×AV
 | [.dat (.int .i64) a0 _,.dat (.int .i64) a1 _,.dat (.sl (.int .i32)) a2 _,.dat (.int .i64) a3 _]=>(qoq a0 a1 a2 a3,(.dat .bool (z115 a0 a1 a2 a3) none))
 | _=>(false,.bad)
def s_z70:List AV→Bool×AV
 | [.dat (.int .i64) a0 _,.dat (.int .i64) a1 _,.dat (.sl (.int .i32)) a2 _,.dat (.int .i64) a3 _]=>(qym a0 a1 a2 a3,(.dat (.int .i64) (z70 a0 a1 a2 a3) none))
 | _=>(false,.bad)
def s_z29:List AV→Bool×AV
 | [.dat (.int .i64) a0 _,.dat (.int .i64) a1 _,.dat (.sl (.int .i32)) a2 _,.dat (.int .i64) a3 _]=>(qyq a0 a1 a2 a3,(.tup [(.dat (.sl (.sl (.int .i32))) ((z29 a0 a1 a2 a3).1) none),(.dat (.int .i64) ((z29 a0 a1 a2 a3).2) none)]))
 | _=>(false,.bad)
def s_z160:List AV→Bool×AV
 | [.dat (.int .i64) a0 _,.dat (.sl (.int .i32)) a1 _]=>(qot a0 a1,(.dat (.int .i64) (z160 a0 a1) none))
 | _=>(false,.bad)
def s_z119:List AV→Bool×AV
 | [.dat (.int .i64) a0 _,.dat (.sl (.int .i32)) a1 _]=>(qou a0 a1,(.dat .bool (z119 a0 a1) none))
 | _=>(false,.bad)
def s_z73:List AV→Bool×AV
 | [.dat (.sl (.int .i32)) a0 _]=>(qyo a0,(.tup [(.dat (.int .i64) ((z73 a0).1) none),(.dat (.int .i64) ((z73 a0).2) none)]))
 | _=>(false,.bad)
def s_z74:List AV→Bool×AV
 | [.dat (.int .i64) a0 _,.dat (.sl (.int .i32)) a1 _]=>(qyl a0 a1,(.tup [(.dat (.int .i64) ((z74 a0 a1).1) none),(.dat (.int .i64) ((z74 a0 a1).2) none)]))
 | _=>(false,.bad)
def s_z31:List AV→Bool×AV
 | [.dat (.sl (.int .i32)) a0 _]=>(qyr a0,(.tup [(.dat (.int .i64) ((z31 a0).1) none),(.dat (.int .i64) ((z31 a0).2.1) none),(.dat (.int .i64) ((z31 a0).2.2) none)]))
 | _=>(false,.bad)
def s_z7:List AV→Bool×AV
 | [.dat (.arr 3 (.int .i64)) a0 _,.dat (.sl (.int .i32)) a1 _]=>(z7_ok a0 a1,(.dat .bool (z7 a0 a1) none))
 | _=>(false,.bad)
theorem qsw:qe Gc Tryz.prog 241 s_z241:=fun w S hg vals avs r h hS ha=>by
 unfold s_z241 at h
 split at h
 ·simp only [Prod.mk.injEq,true_and] at h
  subst h
  exact qre Tryz.func241 (by kernel_rfl) (by kernel_rfl) (by kernel_rfl) (by kernel_rfl) hS ha
 ·cases h
theorem qnF:qe Gc Tryz.prog 38 s_z38:=fun w S hg vals avs r h hS ha=>by
 unfold s_z38 at h
 split at h
 ·obtain ⟨hp,rfl⟩:=Prod.mk.inj h
  exact qwr hS ha (qn hp)
 ·cases h
theorem qsx:qe Gc Tryz.prog 201 s_z201:=fun w S hg vals avs r h hS ha=>by
 unfold s_z201 at h
 split at h
 ·obtain ⟨hp,rfl⟩:=Prod.mk.inj h
  have hp':=of_decide_eq_true hp
  exact qqS hg.2 hS ha hp'.1 hp'.2
 ·cases h
theorem qxo:qe Gc Tryz.prog 77 s_z77:=fun w S hg vals avs r h hS ha=>by
 unfold s_z77 at h
 split at h
 ·obtain ⟨hp,rfl⟩:=Prod.mk.inj h
  exact qup hS ha hp
 ·cases h
theorem qxp:qe Gc Tryz.prog 68 s_z68:=fun w S hg vals avs r h hS ha=>by
 unfold s_z68 at h
 split at h
 ·obtain ⟨hp,rfl⟩:=Prod.mk.inj h
  exact qsr hS ha (qn hp)
 ·cases h
def E_z21:EnvP:=eQ [] 26 (some [4]) (fun x=>if x=4 then some [0,1,5] else none) (fun x=>if x=0 then some [] else if x=1 then some [0,1,5] else none) nP
def C_z21:Code:=cO Tryz.f21
def R_z21:Array ResultVar:=Tryz.f21.results
noncomputable def qnG (K:Ex→Fr→Option AV):=fun s4=>K .ret (frOf [(4,(.dat .bool s4 none))])
def qnH (n:Nat):Ex→Fr→Option AV:=qm 0 (E_z21.cutb 0) (kSeq (evCP E_z21 (evLP E_z21 n) (sub C_z21 [1,1,1])) (kFnP E_z21 R_z21))
def qsy (a0:List Int) (b1:List Int) (i5:Int):Fr:=frOf [(0,(.dat (.sl (.int .i32)) a0 none)),(1,(.dat (.sl (.int .i32)) b1 none)),(5,(.dat (.int .i64) i5 none))]
theorem qxq (K:Ex→Fr→Option AV):∀ (n:Nat) (a0:List Int) (b1:List Int) (i5:Int),evLP E_z21 n (sub C_z21 [1,1,0,1,0,0]) K (qsy a0 b1 i5)=qiW (qnG K) (K (.exit 0) (frOf [])) n a0 b1 i5:=by
 intro n
 induction n with
 | zero=>intros; rfl
 | succ n IH =>
 intro a0 b1 i5
 have ih:(fun a0 b1 i5=>evLP E_z21 n (sub C_z21 [1,1,0,1,0,0]) K (qsy a0 b1 i5))=qiW (qnG K) (K (.exit 0) (frOf [])) n:=by
  funext a0 b1 i5
  exact IH a0 b1 i5
 show _=qdU (qnG K) (K (.exit 0) (frOf [])) (qiW (qnG K) (K (.exit 0) (frOf [])) n) n a0 b1 i5
 rw [← ih]
 kernel_rfl
theorem qqh (n:Nat)  : (qnH n) (.exit 0) (frOf [])=qiX n  := by
 kernel_rfl
theorem qJd (n:Nat) (a0:List Int) (o0:Lab) (b1:List Int) (o1:Lab):evFnP E_z21 n C_z21 R_z21 [.dat (.sl (.int .i32)) a0 o0,.dat (.sl (.int .i32)) b1 o1]=qyH n a0 b1:=by
 unfold qyH
 rw [show qiW qhf (qiX n) n=(fun a0 b1 i5=>evLP E_z21 n (sub C_z21 [1,1,0,1,0,0]) (qnH n) (qsy a0 b1 i5)) from by
  funext a0 b1 i5
  refine Eq.trans ?_ (qxq (qnH n) n a0 b1 i5).symm
  rw [show ((qnH n) (.exit 0) (frOf []))=(qiX n) from by
   exact qqh n ]
  all_goals kernel_rfl]
 kernel_rfl
theorem qxr:qe Gc Tryz.prog 21 s_z21:=by
 refine sQ (E:=E_z21) (c:=C_z21) rfl (fun w S hg=>qc) Tryz.func21 ?_
 intro avs r h
 unfold s_z21 at h
 split at h
 ·obtain ⟨hp,rfl⟩:=Prod.mk.inj h
  obtain ⟨n,hn⟩:=qDv _ _ hp
  exact ⟨n,_,(qJd n _ _ _ _).trans hn,.inl rfl⟩
 ·cases h
def E_z44:EnvP:=eQ [] 9 (some [2]) nC nC nP
def C_z44:Code:=cO Tryz.f44
def R_z44:Array ResultVar:=Tryz.f44.results
theorem qJe (n:Nat) (n0:Int) (o0:Lab):evFnP E_z44 n C_z44 R_z44 [.dat (.int .i64) n0 o0]=qCv n n0:=by
 kernel_rfl
theorem qnI:qe Gc Tryz.prog 44 s_z44:=by
 refine sQ (E:=E_z44) (c:=C_z44) rfl (fun w S hg=>qc) Tryz.func44 ?_
 intro avs r h
 unfold s_z44 at h
 split at h <;> cases h
 obtain ⟨n,hn⟩:=qDf _
 exact ⟨n,_,(qJe n _ _).trans hn,.inl rfl⟩
def E_z45:EnvP:=eQ [] 8 (some [2]) nC (fun x=>if x=0 then some [] else none) nP
def C_z45:Code:=cO Tryz.f45
def R_z45:Array ResultVar:=Tryz.f45.results
theorem qJf (n:Nat) (n0:Int) (o0:Lab):evFnP E_z45 n C_z45 R_z45 [.dat (.int .i64) n0 o0]=qCw n n0:=by
 kernel_rfl
theorem qnJ:qe Gc Tryz.prog 45 s_z45:=by
 refine sQ (E:=E_z45) (c:=C_z45) rfl (fun w S hg=>qc) Tryz.func45 ?_
 intro avs r h
 unfold s_z45 at h
 split at h <;> cases h
 obtain ⟨n,hn⟩:=qDg _
 exact ⟨n,_,(qJf n _ _).trans hn,.inl rfl⟩
def qEG:EnvP:=eQ [] 19 (some [2]) nC (fun x=>if x=0 then some [] else none) nP
def qEH:Code:=cO Tryz.f133
def qJg:Array ResultVar:=Tryz.f133.results
theorem qEI (n:Nat) (charset0:Int) (o0:Lab):evFnP qEG n qEH qJg [.dat (.int .i64) charset0 o0]=quy n charset0:=by
 kernel_rfl
theorem qsz:qe Gc Tryz.prog 133 s_z133:=by
 refine sQ (E:=qEG) (c:=qEH) rfl (fun w S hg=>qc) Tryz.func133 ?_
 intro avs r h
 unfold s_z133 at h
 split at h <;> cases h
 obtain ⟨n,hn⟩:=qzk _
 exact ⟨n,_,(qEI n _ _).trans hn,.inl rfl⟩
def E_z89:EnvP:=eQ [(133,s_z133)] 12 (some [2]) nC nC nP
def C_z89:Code:=cO Tryz.f89
def R_z89:Array ResultVar:=Tryz.f89.results
theorem qJh (n:Nat) (charset0:Int) (o0:Lab):evFnP E_z89 n C_z89 R_z89 [.dat (.int .i64) charset0 o0]=qCx n charset0:=by
 kernel_rfl
theorem qxs:qe Gc Tryz.prog 89 s_z89:=by
 refine sQ (E:=E_z89) (c:=C_z89) rfl (fun w S hg=>(qb (qsz w S hg) qc)) Tryz.func89 ?_
 intro avs r h
 unfold s_z89 at h
 split at h <;> cases h
 obtain ⟨n,hn⟩:=qDd _
 exact ⟨n,_,(qJh n _ _).trans hn,.inl rfl⟩
def E_z48:EnvP:=eQ [(45,s_z45),(89,s_z89)] 13 (some [4]) nC nC nP
def C_z48:Code:=cO Tryz.f48
def R_z48:Array ResultVar:=Tryz.f48.results
theorem qJi (n:Nat) (charset0:Int) (o0:Lab) (code1:Int) (o1:Lab):evFnP E_z48 n C_z48 R_z48 [.dat (.int .i64) charset0 o0,.dat (.int .i64) code1 o1]=qCy n charset0 code1:=by
 kernel_rfl
theorem qnK:qe Gc Tryz.prog 48 s_z48:=by
 refine sQ (E:=E_z48) (c:=C_z48) rfl (fun w S hg=>(qb (qnJ w S hg) (qb (qxs w S hg) qc))) Tryz.func48 ?_
 intro avs r h
 unfold s_z48 at h
 split at h <;> cases h
 obtain ⟨n,hn⟩:=qDh _ _
 exact ⟨n,_,(qJi n _ _ _ _).trans hn,.inl rfl⟩
def E_z17:EnvP:=eQ [(44,s_z44),(48,s_z48)] 11 (some [2]) nC nC nP
def C_z17:Code:=cO Tryz.f17
def R_z17:Array ResultVar:=Tryz.f17.results
theorem qJj (n:Nat) (charset0:Int) (o0:Lab):evFnP E_z17 n C_z17 R_z17 [.dat (.int .i64) charset0 o0]=qCz n charset0:=by
 kernel_rfl
theorem qxt:qe Gc Tryz.prog 17 s_z17:=by
 refine sQ (E:=E_z17) (c:=C_z17) rfl (fun w S hg=>(qb (qnI w S hg) (qb (qnK w S hg) qc))) Tryz.func17 ?_
 intro avs r h
 unfold s_z17 at h
 split at h <;> cases h
 obtain ⟨n,hn⟩:=qDi _
 exact ⟨n,_,(qJj n _ _).trans hn,.inl rfl⟩
def qEJ:EnvP:=eQ [] 13 (some [2]) nC (fun x=>if x=0 then some [] else none) nP
def qEK:Code:=cO Tryz.f161
def qJk:Array ResultVar:=Tryz.f161.results
theorem qEL (n:Nat) (charset0:Int) (o0:Lab):evFnP qEJ n qEK qJk [.dat (.int .i64) charset0 o0]=quA n charset0:=by
 kernel_rfl
theorem qjW:qe Gc Tryz.prog 161 s_z161:=by
 refine sQ (E:=qEJ) (c:=qEK) rfl (fun w S hg=>qc) Tryz.func161 ?_
 intro avs r h
 unfold s_z161 at h
 split at h <;> cases h
 obtain ⟨n,hn⟩:=qzS _
 exact ⟨n,_,(qEL n _ _).trans hn,.inl rfl⟩
def qEM:EnvP:=eQ [] 6 (some [2]) nC nC nP
def qEN:Code:=cO Tryz.f196
def qJl:Array ResultVar:=Tryz.f196.results
theorem qEO (n:Nat) (c0:Int) (o0:Lab):evFnP qEM n qEN qJl [.dat (.int .i32) c0 o0]=qAM n c0:=by
 kernel_rfl
theorem qjX:qe Gc Tryz.prog 196 s_z196:=by
 refine sQ (E:=qEM) (c:=qEN) rfl (fun w S hg=>qc) Tryz.func196 ?_
 intro avs r h
 unfold s_z196 at h
 split at h <;> cases h
 obtain ⟨n,hn⟩:=qzK _
 exact ⟨n,_,(qEO n _ _).trans hn,.inl rfl⟩
def qEP:EnvP:=eQ [] 10 (some [0]) nC nC nP
def qEQ:Code:=cO Tryz.f185
def qJm:Array ResultVar:=Tryz.f185.results
theorem qER (n:Nat)  : evFnP qEP n qEQ qJm []=qAN n  := by
 kernel_rfl
theorem qsA:qe Gc Tryz.prog 185 s_z185:=by
 refine sQ (E:=qEP) (c:=qEQ) rfl (fun w S hg=>qc) Tryz.func185 ?_
 intro avs r h
 unfold s_z185 at h
 split at h <;> cases h
 obtain ⟨n,hn⟩:=qzi
 exact ⟨n,_,(qER n ).trans hn,.inl rfl⟩
def qhW:EnvP:=eQ [(185,s_z185)] 31 (some [2,3]) (fun x=>if x=2 then some [0,6,7] else none) (fun x=>if x=0 then some [0] else if x=1 then some [0,6,7] else if x=2 then some [0,6,7] else none) nP
def qqi:Code:=cO Tryz.f205
def qES:Array ResultVar:=Tryz.f205.results
noncomputable def qhX (K:Ex→Fr→Option AV):=fun s2 s3=>K .ret (frOf [(2,(.dat .byte s2 none)),(3,(.dat .bool s3 none))])
noncomputable def qfL (K:Ex→Fr→Option AV):=fun c0=>K (.exit 0) (frOf [(0,(.dat (.int .i32) c0 none))])
def qhY (n:Nat):Ex→Fr→Option AV:=qm 0 (qhW.cutb 0) (kSeq (evCP qhW (evLP qhW n) (sub qqi [1,1])) (kFnP qhW qES))
def qly (c0:Int) (s6:List (UInt8×(Int×Unit))) (s7:Int):Fr:=frOf [(0,(.dat (.int .i32) c0 none)),(6,(.dat (.arr 8 (.pair .byte (.pair (.int .i32) .unit))) s6 none)),(7,(.dat (.int .i64) s7 none))]
theorem qsB (K:Ex→Fr→Option AV):∀ (n:Nat) (c0:Int) (s6:List (UInt8×(Int×Unit))) (s7:Int),evLP qhW n (sub qqi [1,0,1,0,0]) K (qly c0 s6 s7)=qhg (qhX K) (qfL K) n c0 s6 s7:=by
 intro n
 induction n with
 | zero=>intros; rfl
 | succ n IH =>
 intro c0 s6 s7
 have ih:(fun c0 s6 s7=>evLP qhW n (sub qqi [1,0,1,0,0]) K (qly c0 s6 s7))=qhg (qhX K) (qfL K) n:=by
  funext c0 s6 s7
  exact IH c0 s6 s7
 show _=qoD (qhX K) (qfL K) (qhg (qhX K) (qfL K) n) n c0 s6 s7
 rw [← ih]
 kernel_rfl
theorem qlz (n:Nat) (c0:Int):(qhY n) (.exit 0) (frOf [(0,(.dat (.int .i32) c0 none))])=qbL n c0:=by
 kernel_rfl
theorem qET (n:Nat) (c0:Int) (o0:Lab):evFnP qhW n qqi qES [.dat (.int .i32) c0 o0]=quD n c0:=by
 unfold quD
 rw [show qhg qbx (qbL n) n=(fun c0 s6 s7=>evLP qhW n (sub qqi [1,0,1,0,0]) (qhY n) (qly c0 s6 s7)) from by
  funext c0 s6 s7
  refine Eq.trans ?_ (qsB (qhY n) n c0 s6 s7).symm
  rw [show (qfL (qhY n))=(qbL n) from by
   funext c0
   exact qlz n c0]
  all_goals kernel_rfl]
 kernel_rfl
theorem qjY:qe Gc Tryz.prog 205 s_z205:=by
 refine sQ (E:=qhW) (c:=qqi) rfl (fun w S hg=>(qb (qsA w S hg) qc)) Tryz.func205 ?_
 intro avs r h
 unfold s_z205 at h
 split at h <;> cases h
 obtain ⟨n,hn⟩:=qzG _
 exact ⟨n,_,(qET n _ _).trans hn,.inl rfl⟩
def qEU:EnvP:=eQ [(205,s_z205)] 11 (some [2]) nC nC nP
def qEV:Code:=cO Tryz.f197
def qJn:Array ResultVar:=Tryz.f197.results
theorem qEW (n:Nat) (c0:Int) (o0:Lab):evFnP qEU n qEV qJn [.dat (.int .i32) c0 o0]=qAO n c0:=by
 kernel_rfl
theorem qsC:qe Gc Tryz.prog 197 s_z197:=by
 refine sQ (E:=qEU) (c:=qEV) rfl (fun w S hg=>(qb (qjY w S hg) qc)) Tryz.func197 ?_
 intro avs r h
 unfold s_z197 at h
 split at h <;> cases h
 obtain ⟨n,hn⟩:=qzH _
 exact ⟨n,_,(qEW n _ _).trans hn,.inl rfl⟩
def qEX:EnvP:=⟨⟨tiOf tis,fnsOf [],cnsOf [],[],4,(fun _=>none),(fun _=>none),some [0]⟩,fun _=>none,fun _=>none,(fun x=>if x=500002 then [1] else []),fun _=>none,fun _=>none,fun _=>none,fun _=>none⟩
def qEY:Code:=cO Tryz.f186
def qJo:Array ResultVar:=Tryz.f186.results
theorem qEZ (n:Nat)  : evFnP qEX n qEY qJo []=qAP n  := by
 kernel_rfl
theorem qsD:qe Gc Tryz.prog 186 s_z186:=by
 refine qM qaM (E:=qEX) (fn:=Tryz.f186) (c:=qEY) (qw rfl qgQ) (fun w S hg=>⟨⟨qc,fun f sp h=>qcH f sp h w S⟩,qaZ w S hg,(fun _ _ h=>by cases h),(fun f sp h=>qmX f sp h),(fun f it h=>qmY f it h),(fun t kt vt h=>qer t kt vt h)⟩) follows Tryz.func186 (by kernel_rfl) (by kernel_rfl) (by kernel_rfl) ?_
 intro avs r h
 unfold s_z186 at h
 split at h <;> cases h
 obtain ⟨n,hn⟩:=qzj
 exact ⟨n,_,(qEZ n ).trans hn,.inl rfl⟩
def qhZ:EnvP:=eQ [] 19 (some [4]) (fun x=>if x=2 then some [0,1,7,8] else none) (fun x=>if x=0 then some [] else if x=1 then some [0,1,7,8] else none) nP
def qqj:Code:=cO Tryz.f233
def qFa:Array ResultVar:=Tryz.f233.results
noncomputable def qia (K:Ex→Fr→Option AV):=fun s4=>K .ret (frOf [(4,(.dat (.int .i64) s4 none))])
def qib (n:Nat):Ex→Fr→Option AV:=qm 0 (qhZ.cutb 0) (kSeq (evCP qhZ (evLP qhZ n) (sub qqj [1,1])) (kFnP qhZ qFa))
def qlA (s0:List Int) (v1:Int) (s7:Int) (s8:Int):Fr:=frOf [(0,(.dat (.sl (.int .i32)) s0 none)),(1,(.dat (.int .i32) v1 none)),(7,(.dat (.int .i64) s7 none)),(8,(.dat (.int .i64) s8 none))]
theorem qsE (K:Ex→Fr→Option AV):∀ (n:Nat) (s0:List Int) (v1:Int) (s7:Int) (s8:Int),evLP qhZ n (sub qqj [1,0,1,0,0]) K (qlA s0 v1 s7 s8)=qfZ (qia K) (K (.exit 0) (frOf [])) n s0 v1 s7 s8:=by
 intro n
 induction n with
 | zero=>intros; rfl
 | succ n IH =>
 intro s0 v1 s7 s8
 have ih:(fun s0 v1 s7 s8=>evLP qhZ n (sub qqj [1,0,1,0,0]) K (qlA s0 v1 s7 s8))=qfZ (qia K) (K (.exit 0) (frOf [])) n:=by
  funext s0 v1 s7 s8
  exact IH s0 v1 s7 s8
 show _=qbM (qia K) (K (.exit 0) (frOf [])) (qfZ (qia K) (K (.exit 0) (frOf [])) n) n s0 v1 s7 s8
 rw [← ih]
 kernel_rfl
theorem qlB (n:Nat)  : (qib n) (.exit 0) (frOf [])=qdh n  := by
 kernel_rfl
theorem qFb (n:Nat) (s0:List Int) (o0:Lab) (v1:Int) (o1:Lab):evFnP qhZ n qqj qFa [.dat (.sl (.int .i32)) s0 o0,.dat (.int .i32) v1 o1]=qoE n s0 v1:=by
 unfold qoE
 rw [show qfZ qfY (qdh n) n=(fun s0 v1 s7 s8=>evLP qhZ n (sub qqj [1,0,1,0,0]) (qib n) (qlA s0 v1 s7 s8)) from by
  funext s0 v1 s7 s8
  refine Eq.trans ?_ (qsE (qib n) n s0 v1 s7 s8).symm
  rw [show ((qib n) (.exit 0) (frOf []))=(qdh n) from by
   exact qlB n ]
  all_goals kernel_rfl]
 kernel_rfl
theorem qsF:qe Gc Tryz.prog 233 s_z233:=by
 refine sQ (E:=qhZ) (c:=qqj) rfl (fun w S hg=>qc) Tryz.func233 ?_
 intro avs r h
 unfold s_z233 at h
 split at h
 ·obtain ⟨hp,rfl⟩:=Prod.mk.inj h
  obtain ⟨n,hn⟩:=qzw _ _ hp
  exact ⟨n,_,(qFb n _ _ _ _).trans hn,.inl rfl⟩
 ·cases h
def qFc:EnvP:=eQ [(186,s_z186),(233,s_z233)] 31 (some [2,3]) nC (fun x=>if x=0 then some [0] else none) nP
def qFd:Code:=cO Tryz.f207
def qJp:Array ResultVar:=Tryz.f207.results
theorem qFe (n:Nat) (c0:Int) (o0:Lab):evFnP qFc n qFd qJp [.dat (.int .i32) c0 o0]=quG n c0:=by
 kernel_rfl
theorem qjZ:qe Gc Tryz.prog 207 s_z207:=by
 refine sQ (E:=qFc) (c:=qFd) rfl (fun w S hg=>(qb (qsD w S hg) (qb (qsF w S hg) qc))) Tryz.func207 ?_
 intro avs r h
 unfold s_z207 at h
 split at h <;> cases h
 obtain ⟨n,hn⟩:=qzI _
 exact ⟨n,_,(qFe n _ _).trans hn,.inl rfl⟩
end
end Go.Av
