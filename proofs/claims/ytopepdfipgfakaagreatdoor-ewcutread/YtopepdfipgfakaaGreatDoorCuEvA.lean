import Derived.Test.YtopepdfipgfakaaGreatDoorCuP9
import Derived.Test.YtopepdfipgfakaaGreatDoorCuC
import Derived.Test.YtopepdfipgfakaaGreatDoorProg
import Derived.KernelRfl
namespace Go.Av
set_option linter.unusedSimpArgs false
noncomputable section
open Go.Proofs
set_option maxRecDepth 100000
set_option linter.unusedVariables false
def tis:List (TypeId×TI):=[(2,⟨some (.int .i64),8,0⟩),
 (3,⟨some (.int .i64),8,0⟩),
 (4,⟨some .bool,1,0⟩),
 (5,⟨some .byte,1,0⟩),
 (6,⟨some .byte,1,0⟩),
 (7,⟨some (.pair (.int .i64) (.pair (.int .i64) (.pair .bool (.pair .byte .unit)))),24,0⟩),
 (8,⟨some (.pair (.int .i64) (.pair (.int .i64) (.pair .bool (.pair .byte .unit)))),24,0⟩),
 (9,⟨some .str,16,0⟩),
 (10,⟨some .str,16,0⟩),
 (11,⟨some .str,16,0⟩),
 (12,⟨some (.int .u64),8,0⟩),
 (13,⟨some (.pair .str (.pair (.int .u64) .unit)),24,0⟩),
 (14,⟨some (.pair .str (.pair (.int .u64) .unit)),24,0⟩),
 (21,⟨some (.int .i32),4,0⟩),
 (22,⟨some (.sl .byte),24,5⟩),
 (24,⟨some (.pair (.sl .byte) (.pair (.int .i64) (.pair (.sl .byte) .unit))),56,0⟩),
 (25,⟨some (.pair (.sl .byte) (.pair (.int .i64) (.pair (.sl .byte) .unit))),56,0⟩),
 (26,⟨some (.int .i64),8,0⟩),
 (29,⟨some (.pair (.sl .byte) (.pair (.int .i64) (.pair (.sl .byte) .unit))),56,0⟩),
 (40,⟨some (.sl (.int .i32)),24,21⟩),
 (46,⟨some (.arr 3 (.int .i64)),24,3⟩),
 (47,⟨some (.sl (.sl (.int .i32))),24,40⟩),
 (57,⟨some (.sl (.sl .byte)),24,22⟩),
 (106,⟨some (.sl .str),24,9⟩),
 (109,⟨some (.sl (.int .i64)),24,3⟩),
 (133,⟨some (.int .u64),8,0⟩),
 (156,⟨some (.int .u32),4,0⟩),
 (159,⟨some (.int .u64),8,0⟩),
 (162,⟨some (.pair .byte (.pair (.int .i32) .unit)),8,0⟩),
 (163,⟨some (.pair .byte (.pair (.int .i32) .unit)),8,0⟩),
 (164,⟨some (.arr 8 (.pair .byte (.pair (.int .i32) .unit))),64,163⟩),
 (177,⟨some .unit,0,0⟩),
 (178,⟨some .unit,0,0⟩),
 (179,⟨some .unit,0,0⟩),
 (187,⟨some (.arr 32 (.int .i32)),128,21⟩),
 (190,⟨some (.arr 256 .bool),256,4⟩),
 (191,⟨some (.arr 256 .bool),256,4⟩),
 (196,⟨some (.arr 32 .byte),32,5⟩),
 (197,⟨some (.arr 64 .byte),64,5⟩),
 (199,⟨some (.arr 256 .byte),256,5⟩),
 (200,⟨some (.pair .byte (.pair .byte .unit)),2,0⟩),
 (201,⟨some (.pair .byte (.pair .byte .unit)),2,0⟩),
 (202,⟨some (.arr 16 (.pair .byte (.pair .byte .unit))),32,201⟩),
 (213,⟨some .byte,1,0⟩),
 (214,⟨some .byte,1,0⟩),
 (217,⟨some (.int .i32),4,0⟩),
 (218,⟨some (.int .i32),4,0⟩)]
theorem qhU:(tis.all fun p=>tyB Tryz.prog (tiOf tis) p.1)=true:=by kernel_rfl
theorem follows:Tryz.prog.follows .mixedOrders=true:=by kernel_rfl
abbrev FnL:=List (FuncId×(List AV→Bool×AV))
abbrev CutL:=Nat→Option (List Nat)
def eQ (l:FnL) (nt:Nat) (r:Option (List Nat)) (a b:CutL) (p:Nat→Option PSh):EnvP:=⟨⟨tiOf tis,fnsOf l,cnsOf [],[],nt,a,b,r⟩,p,fun _=>none,fun _=>[],fun _=>none,fun _=>none,fun _=>none,fun _=>none⟩
def cO (f:Func):Code:=f.body.getD .skip
def nC:CutL:=fun _=>none
def nP:Nat→Option PSh:=fun _=>none
theorem sQ {E:EnvP} {l:FnL} {nt:Nat} {r:Option (List Nat)} {a b:CutL} {p:Nat→Option PSh} {f:FuncId} {fn:Func} {c:Code} {spec:List AV→Bool×AV} (hE:E=eQ l nt r a b p) (hl:∀ w S,Gc w S→∀ f,qas Tryz.prog f (fnsOf l f) w S)
 (hf:Tryz.prog.funcs[f]? = some fn) (hspec:∀ avs r',spec avs=(true,r')→∃ n v,evFnP E n c fn.results avs=some v∧(v=r'∨v.strip=r')) (hb:fn.body=some c:=by kernel_rfl) (hnt:fn.ntmps=nt:=by kernel_rfl) (hname:(fn.name == "runtime.NumGoroutine")=false:=by kernel_rfl):qe Gc Tryz.prog f spec:=by
 subst hE
 exact qN qbc (E:=eQ l nt r a b p) (qw rfl qhU) (fun w S hg=>⟨⟨hl w S hg,fun f sp h=>qdr f sp h w S⟩,qbr w S hg,(fun _ _ h=>by cases h),(fun f sp h=>qoV f sp h),(fun f it h=>qoW f it h),(fun t kt vt h=>qfe t kt vt h)⟩) follows hf hb hnt hname hspec
def s_z41:List AV→Bool×AV
 | [.dat (.sl .byte) a0 _]=>(qDV a0,(.dat (.sl (.sl .byte)) (z41 a0) none))
 | _=>(false,.bad)
def s_z81:List AV→Bool×AV
 | [.dat .byte a0 _]=>(true,(.dat .byte (z81 a0) none))
 | _=>(false,.bad)
def s_z42:List AV→Bool×AV
 | [.dat .byte a0 _]=>(true,(.dat (.int .i64) (z42 a0) none))
 | _=>(false,.bad)
def s_z179:List AV→Bool×AV
 | [.dat .str a0 _,.dat .byte a1 _]=>(qEJ a0 a1,(.dat .bool (z179 a0 a1) none))
 | _=>(false,.bad)
def s_z128:List AV→Bool×AV
 | [.dat .byte a0 _]=>(true,(.dat (.int .i64) (z128 a0) none))
 | _=>(false,.bad)
def s_z82:List AV→Bool×AV
 | [.dat .byte a0 _,.dat (.int .i64) a1 _]=>(true,(.dat .bool (z82 a0 a1) none))
 | _=>(false,.bad)
def s_z43:List AV→Bool×AV
 | [.dat (.sl .byte) a0 _,.dat (.int .i64) a1 _]=>(qtA a0 a1,(.dat (.int .i64) (z43 a0 a1) none))
 | _=>(false,.bad)
def s_z12:List AV→Bool×AV
 | [.dat (.sl .byte) a0 _]=>(qmx a0,(.tup [(.dat (.pair (.sl .byte) (.pair (.int .i64) (.pair (.sl .byte) .unit))) ((z12 a0).1) none),(.dat (.int .i64) ((z12 a0).2) none)]))
 | _=>(false,.bad)
def s_z92:List AV→Bool×AV
 | [.dat (.int .i64) a0 _]=>(true,(.dat (.sl .str) (z92 a0) (some (2,9))))
 | _=>(false,.bad)
def s_z104:List AV→Bool×AV
 | [.dat (.sl .byte) a0 _]=>(qrJ a0,(.dat (.sl .byte) (z104 a0) (some (2,5))))
 | _=>(false,.bad)
def s_z147:List AV→Bool×AV
 | [.dat (.sl .byte) a0 _]=>(qrM a0,(.dat (.sl .byte) (z147 a0) none))
 | _=>(false,.bad)
def s_z105:List AV→Bool×AV
 | [.dat (.sl .byte) a0 _]=>(qrH a0,(.dat (.sl .byte) (z105 a0) none))
 | _=>(false,.bad)
def s_z57:List AV→Bool×AV
 | [.dat (.sl .byte) a0 _]=>(qtu a0,(.tup [(.dat (.int .i64) ((z57 a0).1) none),(.dat (.int .i64) ((z57 a0).2) none)]))
 | _=>(false,.bad)
def s_z23:List AV→Bool×AV
 | [.dat (.sl .byte) a0 _]=>(qhM a0,(.dat (.int .i64) (z23 a0) none))
 | _=>(false,.bad)
def s_z153:List AV→Bool×AV
 | [.dat .byte a0 _]=>(true,(.dat (.int .i64) (z153 a0) none))
 | _=>(false,.bad)
def s_z193:List AV→Bool×AV
 | [.dat .byte a0 _]=>(true,(.tup [(.dat .byte ((z193 a0).1) none),(.dat .byte ((z193 a0).2) none)]))
 | _=>(false,.bad)
def s_z152:List AV→Bool×AV
 | [.dat (.sl .byte) a0 _]=>(qrF a0,(.dat (.int .i64) (z152 a0) none))
 | _=>(false,.bad)
def s_z111:List AV→Bool×AV
 | [.dat (.sl .byte) a0 _]=>(qrG a0,(.tup [(.dat (.int .i32) ((z111 a0).1) none),(.dat (.int .i64) ((z111 a0).2.1) none),(.dat (.int .i64) ((z111 a0).2.2) none)]))
 | _=>(false,.bad)
def s_z63:List AV→Bool×AV
 | [.dat (.sl .byte) a0 _]=>(qDJ a0,(.tup [(.dat (.sl (.int .i32)) ((z63 a0).1) none),(.dat (.int .i64) ((z63 a0).2.1) none),(.dat (.int .i64) ((z63 a0).2.2) none)]))
 | _=>(false,.bad)
def s_z64:List AV→Bool×AV
 | [.dat .byte a0 _]=>(true,(.dat (.int .i32) (z64 a0) none))
 | _=>(false,.bad)
def s_z65:List AV→Bool×AV
 | [.dat .byte a0 _]=>(true,(.dat (.int .i32) (z65 a0) none))
 | _=>(false,.bad)
def s_z26:List AV→Bool×AV
 | [.dat (.int .i64) a0 _,.dat (.sl .byte) a1 _]=>(qtt a0 a1,(.dat (.sl (.int .i32)) (z26 a0 a1) none))
 | _=>(false,.bad)
def s_z135:List AV→Bool×AV
 | [.dat (.int .i64) a0 _]=>(true,(.dat .byte (z135 a0) none))
 | _=>(false,.bad)
def s_z145:List AV→Bool×AV
 | [.dat .byte a0 _]=>(true,(.tup [(.dat (.int .i64) ((z145 a0).1) none),(.dat .bool ((z145 a0).2) none)]))
 | _=>(false,.bad)
def s_z100:List AV→Bool×AV
 | [.dat (.sl .byte) a0 _]=>(qrI a0,(.tup [(.dat (.sl .byte) ((z100 a0).1) none),(.dat (.int .i64) ((z100 a0).2) none)]))
 | _=>(false,.bad)
def s_z101:List AV→Bool×AV
 | [.dat (.sl .byte) a0 _]=>(qiD a0,(.tup [(.dat (.sl (.int .i64)) ((z101 a0).1) none),(.dat .bool ((z101 a0).2) none)]))
 | _=>(false,.bad)
def s_z136:List AV→Bool×AV
 | [.dat (.sl (.int .i64)) a0 _]=>(qel a0,(.dat (.int .i64) (z136 a0) none))
 | _=>(false,.bad)
def s_z102:List AV→Bool×AV
 | [.dat (.sl (.int .i64)) a0 _]=>(qiE a0,(.tup [(.dat (.sl .byte) ((z102 a0).1) none),(.dat .bool ((z102 a0).2) none)]))
 | _=>(false,.bad)
def s_z55:List AV→Bool×AV
 | [.dat (.sl .byte) a0 _]=>(qDL a0,(.tup [(.dat (.sl .byte) ((z55 a0).1) none),(.dat (.int .i64) ((z55 a0).2) none)]))
 | _=>(false,.bad)
def s_z184:List AV→Bool×AV
 | [.dat (.int .i64) a0 _]=>(qbA a0,(.dat .byte (z184 a0) none))
 | _=>(false,.bad)
def s_z146:List AV→Bool×AV
 | [.dat .byte a0 _]=>(true,(.tup [(.dat (.int .i64) ((z146 a0).1) none),(.dat .bool ((z146 a0).2) none)]))
 | _=>(false,.bad)
def s_z103:List AV→Bool×AV
 | [.dat (.sl .byte) a0 _,.dat (.int .i64) a1 _,.dat .byte a2 _]=>(qrs a0 a1 a2,(.tup [(.dat .byte ((z103 a0 a1 a2).1) none),(.dat .bool ((z103 a0 a1 a2).2) none)]))
 | _=>(false,.bad)
def s_z56:List AV→Bool×AV
 | [.dat (.sl .byte) a0 _]=>(qtv a0,(.tup [(.dat (.sl .byte) ((z56 a0).1) none),(.dat (.int .i64) ((z56 a0).2) none)]))
 | _=>(false,.bad)
def s_z20:List AV→Bool×AV
 | [.dat (.sl .byte) a0 _]=>(qDP a0,(.tup [(.dat (.sl (.int .i32)) ((z20 a0).1) none),(.dat .bool ((z20 a0).2) none)]))
 | _=>(false,.bad)
def s_z21:List AV→Bool×AV
 | [.dat (.sl (.int .i32)) a0 _,.dat (.sl (.int .i32)) a1 _]=>(qDR a0 a1,(.dat .bool (z21 a0 a1) none))
 | _=>(false,.bad)
def s_z61:List AV→Bool×AV
 | [.dat (.sl .byte) a0 _]=>(qDK a0,(.tup [(.dat (.sl .byte) ((z61 a0).1) none),(.dat (.int .i64) ((z61 a0).2) none)]))
 | _=>(false,.bad)
def s_z62:List AV→Bool×AV
 | [.dat (.sl .byte) a0 _]=>(qDM a0,(.dat (.int .i64) (z62 a0) none))
 | _=>(false,.bad)
def s_z25:List AV→Bool×AV
 | [.dat (.sl .byte) a0 _]=>(qDO a0,(.dat .bool (z25 a0) none))
 | _=>(false,.bad)
def s_z44:List AV→Bool×AV
 | [.dat (.int .i64) a0 _]=>(true,(.dat .bool (z44 a0) none))
 | _=>(false,.bad)
def s_z45:List AV→Bool×AV
 | [.dat (.int .i64) a0 _]=>(true,(.dat .str (z45 a0) none))
 | _=>(false,.bad)
def s_z133:List AV→Bool×AV
 | [.dat (.int .i64) a0 _]=>(true,(.dat (.sl .str) (z133 a0) (some (2,9))))
 | _=>(false,.bad)
def s_z89:List AV→Bool×AV
 | [.dat (.int .i64) a0 _]=>(true,(.dat .str (z89 a0) none))
 | _=>(false,.bad)
def s_z48:List AV→Bool×AV
 | [.dat (.int .i64) a0 _,.dat (.int .i64) a1 _]=>(true,(.dat .str (z48 a0 a1) none))
 | _=>(false,.bad)
def s_z17:List AV→Bool×AV
 | [.dat (.int .i64) a0 _]=>(true,(.dat (.int .i64) (z17 a0) none))
 | _=>(false,.bad)
def s_z161:List AV→Bool×AV
 | [.dat (.int .i64) a0 _]=>(true,(.dat (.int .i64) (z161 a0) none))
 | _=>(false,.bad)
def s_z196:List AV→Bool×AV
 | [.dat (.int .i32) a0 _]=>(true,(.dat .bool (z196 a0) none))
 | _=>(false,.bad)
def s_z185:List AV→Bool×AV
 | []=>(true,(.dat (.arr 8 (.pair .byte (.pair (.int .i32) .unit))) z185 none))
 | _=>(false,.bad)
def s_z205:List AV→Bool×AV
 | [.dat (.int .i32) a0 _]=>(true,(.tup [(.dat .byte ((z205 a0).1) none),(.dat .bool ((z205 a0).2) none)]))
 | _=>(false,.bad)
def s_z197:List AV→Bool×AV
 | [.dat (.int .i32) a0 _]=>(true,(.dat .bool (z197 a0) none))
 | _=>(false,.bad)
def s_z186:List AV→Bool×AV
 | []=>(true,(.dat (.sl (.int .i32)) z186 none))
 | _=>(false,.bad)
def s_z233:List AV→Bool×AV
 | [.dat (.sl (.int .i32)) a0 _,.dat (.int .i32) a1 _]=>(qfr a0 a1,(.dat (.int .i64) (z233 a0 a1) none))
 | _=>(false,.bad)
def s_z207:List AV→Bool×AV
 | [.dat (.int .i32) a0 _]=>(true,(.tup [(.dat .byte ((z207 a0).1) none),(.dat .bool ((z207 a0).2) none)]))
 | _=>(false,.bad)
def s_z198:List AV→Bool×AV
 | [.dat (.int .i32) a0 _]=>(true,(.dat .bool (z198 a0) none))
 | _=>(false,.bad)
def s_z230:List AV→Bool×AV
 | [.dat (.int .i32) a0 _]=>(true,(.dat .bool (z230 a0) none))
 | _=>(false,.bad)
def s_z199:List AV→Bool×AV
 | [.dat (.int .i32) a0 _]=>(true,(.dat .bool (z199 a0) none))
 | _=>(false,.bad)
def s_z157:List AV→Bool×AV
 | [.dat (.int .i64) a0 _,.dat (.int .i32) a1 _]=>(true,(.dat .bool (z157 a0 a1) none))
 | _=>(false,.bad)
def s_z202:List AV→Bool×AV
 | [.dat (.int .i64) a0 _,.dat (.sl (.int .i32)) a1 _]=>(qrD a0 a1,(.dat (.int .i64) (z202 a0 a1) none))
 | _=>(false,.bad)
def s_z162:List AV→Bool×AV
 | [.dat (.int .i64) a0 _,.dat (.sl (.int .i32)) a1 _]=>(qrE a0 a1,(.dat .bool (z162 a0 a1) none))
 | _=>(false,.bad)
def s_z243:List AV→Bool×AV
 | [.dat (.int .i32) a0 _]=>(true,(.dat .bool (z243 a0) none))
 | _=>(false,.bad)
def s_z242:List AV→Bool×AV
 | [.dat (.sl (.int .i32)) a0 _,.fn 243 []]=>(qrt a0,(.dat (.int .i64) (z242 a0) none))
 | _=>(false,.bad)
def s_z231:List AV→Bool×AV
 | [.dat (.sl (.int .i32)) a0 _]=>(qru a0,(.dat (.int .i64) (z231 a0) none))
 | _=>(false,.bad)
def s_z203:List AV→Bool×AV
 | [.dat (.sl (.int .i32)) a0 _]=>(qrv a0,(.dat .bool (z203 a0) none))
 | _=>(false,.bad)
def s_z38:List AV→Bool×AV
 | [.dat (.sl .byte) a0 _]=>(qzr a0,(.dat (.sl .byte) (z38 a0) (some (0,5))))
 | _=>(false,.bad)
def s_z218:List AV→Bool×AV
 | [.dat (.int .i64) a0 _]=>(true,(.dat .byte (z218 a0) none))
 | _=>(false,.bad)
def s_z232:List AV→Bool×AV
 | [.dat (.int .i32) a0 _]=>(true,(.dat (.int .i64) (z232 a0) none))
 | _=>(false,.bad)
def s_z204:List AV→Bool×AV
 | [.dat (.sl .byte) a0 _,.dat (.int .i32) a1 _]=>(qrw a0 a1,(.tup [(.dat (.sl .byte) ((z204 a0 a1).1) none),(.dat (.int .i64) ((z204 a0 a1).2) none)]))
 | _=>(false,.bad)
def s_z163:List AV→Bool×AV
 | [.dat (.sl (.int .i32)) a0 _]=>(qrC a0,(.tup [(.dat (.sl .byte) ((z163 a0).1) none),(.dat (.int .i64) ((z163 a0).2) none)]))
 | _=>(false,.bad)
def s_z164:List AV→Bool×AV
 | [.dat (.sl (.int .i32)) a0 _]=>(qrA a0,(.tup [(.dat (.sl .byte) ((z164 a0).1) none),(.dat (.int .i64) ((z164 a0).2) none)]))
 | _=>(false,.bad)
def s_z206:List AV→Bool×AV
 | [.dat (.sl (.int .i32)) a0 _]=>(qrx a0,(.dat (.int .i64) (z206 a0) none))
 | _=>(false,.bad)
def s_z165:List AV→Bool×AV
 | [.dat (.sl (.int .i32)) a0 _]=>(qrB a0,(.tup [(.dat (.sl .byte) ((z165 a0).1) none),(.dat (.int .i64) ((z165 a0).2) none)]))
 | _=>(false,.bad)
def s_z208:List AV→Bool×AV
 | [.dat (.sl (.int .i32)) a0 _]=>(qry a0,(.dat (.int .i64) (z208 a0) none))
 | _=>(false,.bad)
def s_z166:List AV→Bool×AV
 | [.dat (.sl (.int .i32)) a0 _]=>(qrz a0,(.tup [(.dat (.sl .byte) ((z166 a0).1) none),(.dat (.int .i64) ((z166 a0).2) none)]))
 | _=>(false,.bad)
def s_z120:List AV→Bool×AV
 | [.dat (.int .i64) a0 _,.dat (.sl (.int .i32)) a1 _]=>(qiC a0 a1,(.tup [(.dat (.sl .byte) ((z120 a0 a1).1) none),(.dat (.int .i64) ((z120 a0 a1).2) none)]))
 | _=>(false,.bad)
def s_z214:List AV→Bool×AV
 | [.dat .byte a0 _]=>(true,(.dat (.int .i64) (z214 a0) none))
 | _=>(false,.bad)
def s_z241:List AV→Bool×AV
 | [.dat .str a0 _,.dat .byte a1 _]=>(true,(.dat (.int .i64) (z241 a0 a1) none))
 | _=>(false,.bad)
def s_z229:List AV→Bool×AV
 | [.dat .str a0 _,.dat .byte a1 _]=>(true,(.dat (.int .i64) (z229 a0 a1) none))
 | _=>(false,.bad)
def s_z192:List AV→Bool×AV
 | [.dat .str a0 _,.dat .byte a1 _]=>(true,(.dat (.int .i64) (z192 a0 a1) none))
 | _=>(false,.bad)
def s_z215:List AV→Bool×AV
 | [.dat .str a0 _,.dat .byte a1 _]=>(true,(.dat .bool (z215 a0 a1) none))
 | _=>(false,.bad)
def s_z180:List AV→Bool×AV
 | [.dat .byte a0 _]=>(true,(.dat (.int .i64) (z180 a0) none))
 | _=>(false,.bad)
def s_z129:List AV→Bool×AV
 | [.dat .byte a0 _,.dat (.int .i64) a1 _]=>(true,(.dat .bool (z129 a0 a1) none))
 | _=>(false,.bad)
def s_z84:List AV→Bool×AV
 | [.dat .byte a0 _]=>(true,(.dat (.int .i64) (z84 a0) none))
 | _=>(false,.bad)
def s_z83:List AV→Bool×AV
 | [.dat (.sl .byte) a0 _]=>(qhZ a0,(.dat (.int .i64) (z83 a0) none))
 | _=>(false,.bad)
def s_z87:List AV→Bool×AV
 | [.dat (.int .i64) a0 _]=>(true,(.dat (.int .i64) (z87 a0) none))
 | _=>(false,.bad)
def s_z154:List AV→Bool×AV
 | [.iface 178 (.dat .unit () none),.dat (.sl .byte) a1 _]=>(qfm a1,.tup [.dat (.int .i64) (z87 ((List.length a1:Nat):Int)) none,.dat .bool true none])
 | [.iface 179 (.dat .unit () none),.dat (.sl .byte) a1 _]=>(qfm a1,.tup [.dat (.int .i64) (z83 a1) none,.dat .bool true none])
 | [.nilIface,.dat (.sl .byte) a1 _]=>(true,.tup [.dat (.int .i64) (0:Int) none,.dat .bool false none])
 | _=>(false,.bad)
def s_z154_v0:List AV→Bool×AV
 | [.iface 178 (.dat .unit () none),.dat (.sl .byte) a1 _]=>(true,.tup [.dat (.int .i64) (z87 ((List.length a1:Nat):Int)) none,.dat .bool true none])
 | _=>(false,.bad)
def s_z154_v1:List AV→Bool×AV
 | [.iface 179 (.dat .unit () none),.dat (.sl .byte) a1 _]=>(qfm a1,.tup [.dat (.int .i64) (z83 a1) none,.dat .bool true none])
 | _=>(false,.bad)
def s_z154_v2:List AV→Bool×AV
 | [.nilIface,.dat (.sl .byte) a1 _]=>(true,.tup [.dat (.int .i64) (0:Int) none,.dat .bool false none])
 | _=>(false,.bad)
def s_z194:List AV→Bool×AV
 | [.dat .unit a0 _]=>(true,(.dat (.int .i64) (z194 a0) none))
 | _=>(false,.bad)
def s_z195:List AV→Bool×AV
 | [.dat .unit a0 _]=>(true,(.dat (.int .i64) (z195 a0) none))
 | _=>(false,.bad)
def s_z155:List AV→Bool×AV
 | [.dat (.int .i64) a0 _]=>(true,z155 a0)
 | _=>(false,.bad)
def s_z112:List AV→Bool×AV
 | [.dat (.int .i64) a0 _,.dat (.int .i64) a1 _,.dat (.sl (.int .i32)) a2 _]=>(qfn a0 a1 a2,(.tup [(.dat (.int .i64) ((z112 a0 a1 a2).1) none),(.dat (.int .i64) ((z112 a0 a1 a2).2) none)]))
 | _=>(false,.bad)
def s_z66:List AV→Bool×AV
 | [.dat (.int .i64) a0 _,.dat (.int .i64) a1 _,.dat (.sl (.int .i32)) a2 _]=>(qsY a0 a1 a2,(.tup [(.dat (.int .i64) ((z66 a0 a1 a2).1) none),(.dat (.int .i64) ((z66 a0 a1 a2).2) none)]))
 | _=>(false,.bad)
def s_z156:List AV→Bool×AV
 | [.dat (.int .i64) a0 _,.dat (.int .i64) a1 _,.dat (.sl (.int .i32)) a2 _,.dat (.int .i64) a3 _]=>(qqm a0 a1 a2 a3,(.dat .bool (z156 a0 a1 a2 a3) none))
 | _=>(false,.bad)
def s_z114:List AV→Bool×AV
 | [.dat (.int .i64) a0 _,.dat (.int .i64) a1 _,.dat (.sl (.int .i32)) a2 _,.dat (.int .i64) a3 _]=>(qqn a0 a1 a2 a3,(.dat (.int .i64) (z114 a0 a1 a2 a3) none))
 | _=>(false,.bad)
def s_z113:List AV→Bool×AV
 | [.abs s V x,.pbox (.leaf (.sl (.int .i32))) b0 none,.pbox (.leaf (.int .i64)) b1 none,.pbox (.leaf (.int .i64)) b2 none,.pbox (.leaf (.int .i64)) b3 none]=>((z113 (fun x a0=>V.spec x [⟨(.sl (.int .i32)),a0⟩]) x b0 b1 b2 b3).1,.tup [.tup [],.abs s V (z113 (fun x a0=>V.spec x [⟨(.sl (.int .i32)),a0⟩]) x b0 b1 b2 b3).2.1,.pbox (.leaf (.sl (.int .i32))) ((z113 (fun x a0=>V.spec x [⟨(.sl (.int .i32)),a0⟩]) x b0 b1 b2 b3).2.2.1) none,.pbox (.leaf (.int .i64)) ((z113 (fun x a0=>V.spec x [⟨(.sl (.int .i32)),a0⟩]) x b0 b1 b2 b3).2.2.2.1) none,.pbox (.leaf (.int .i64)) ((z113 (fun x a0=>V.spec x [⟨(.sl (.int .i32)),a0⟩]) x b0 b1 b2 b3).2.2.2.2.1) none,.pbox (.leaf (.int .i64)) ((z113 (fun x a0=>V.spec x [⟨(.sl (.int .i32)),a0⟩]) x b0 b1 b2 b3).2.2.2.2.2) none])
 | _=>(false,.bad)
def qEf:Iter:=⟨[.leaf (.sl (.int .i32)),.leaf (.int .i64),.leaf (.int .i64),.leaf (.int .i64)],fun s spec x y=>((z113 (fun x a0=>spec x [⟨(.sl (.int .i32)),a0⟩]) x y.1 y.2.1 y.2.2.1 y.2.2.2.1).1,(z113 (fun x a0=>spec x [⟨(.sl (.int .i32)),a0⟩]) x y.1 y.2.1 y.2.2.1 y.2.2.2.1).2.1)⟩
def s_z67:List AV→Bool×AV
 | [.dat (.int .i64) a0 _,.dat (.int .i64) a1 _,.dat (.sl (.int .i32)) a2 _,.dat (.int .i64) a3 _]=>(true,(.abs (qeA [.leaf (.sl (.int .i32)),.leaf (.int .i64),.leaf (.int .i64),.leaf (.int .i64)]) (clInv 113 [.leaf (.sl (.int .i32)),.leaf (.int .i64),.leaf (.int .i64),.leaf (.int .i64)]) (a2,(a0,(a1,(a3,()))))))
 | _=>(false,.bad)
def s_z68:List AV→Bool×AV
 | [.dat (.sl (.int .i32)) a0 _]=>(qFE a0,(.dat (.sl (.int .i32)) (z68 a0) none))
 | _=>(false,.bad)
def s_z28:List AV→Bool×AV
 | [.dat (.int .i64) a0 _,.dat (.int .i64) a1 _,.dat (.sl (.int .i32)) a2 _,.dat (.int .i64) a3 _]=>(qBl a0 a1 a2 a3,(.tup [(.dat (.sl (.sl (.int .i32))) ((z28 a0 a1 a2 a3).1) none),(.dat (.int .i64) ((z28 a0 a1 a2 a3).2) none)]))
 | _=>(false,.bad)
def s_z116:List AV→Bool×AV
 | [.dat (.int .i32) a0 _]=>(true,(.dat (.int .i64) (z116 a0) none))
 | _=>(false,.bad)
def s_z201:List AV→Bool×AV
 | [.dat (.int .u64) a0 _]=>(qwP a0,(.dat (.int .i64) (z201 a0) none))
 | _=>(false,.bad)
def s_z158:List AV→Bool×AV
 | [.dat (.int .u64) a0 _]=>(qqo a0,(.dat (.int .i64) (z158 a0) none))
 | _=>(false,.bad)
def s_z117:List AV→Bool×AV
 | [.dat (.int .i64) a0 _]=>(qqp a0,(.dat (.int .i64) (z117 a0) none))
 | _=>(false,.bad)
def s_z71:List AV→Bool×AV
 | [.dat (.sl (.int .i32)) a0 _]=>(qBk a0,(.tup [(.dat (.int .i64) ((z71 a0).1) none),(.dat (.int .i64) ((z71 a0).2) none)]))
 | _=>(false,.bad)
def s_z159:List AV→Bool×AV
 | [.dat (.int .i64) a0 _,.dat (.int .i64) a1 _,.dat (.sl (.int .i32)) a2 _]=>(qii a0 a1 a2,(.dat (.int .i64) (z159 a0 a1 a2) none))
 | _=>(false,.bad)
def s_z118:List AV→Bool×AV
 | [.dat (.int .i64) a0 _,.dat (.sl (.int .i32)) a1 _]=>(qql a0 a1,(.dat (.int .i64) (z118 a0 a1) none))
 | _=>(false,.bad)
def s_z72:List AV→Bool×AV
 | [.dat (.int .i64) a0 _,.dat (.sl (.int .i32)) a1 _]=>(qBi a0 a1,(.tup [(.dat (.int .i64) ((z72 a0 a1).1) none),(.dat (.int .i64) ((z72 a0 a1).2) none)]))
 | _=>(false,.bad)
def s_z30:List AV→Bool×AV
 | [.dat (.sl (.int .i32)) a0 _]=>(qBm a0,(.tup [(.dat (.int .i64) ((z30 a0).1) none),(.dat (.int .i64) ((z30 a0).2.1) none),(.dat (.int .i64) ((z30 a0).2.2) none)]))
 | _=>(false,.bad)
def s_z181:List AV→Bool×AV
 | [.dat (.int .i64) a0 _]=>(qcW a0,(.dat .byte (z181 a0) none))
 | _=>(false,.bad)
def s_z130:List AV→Bool×AV
 | [.dat .byte a0 _]=>(true,(.dat (.sl .byte) (z130 a0) (some (2,5))))
 | _=>(false,.bad)
def s_z85:List AV→Bool×AV
 | [.dat (.sl .byte) a0 _,.dat .byte a1 _,.dat .byte a2 _]=>(qDI a0 a1 a2,(.dat (.sl .byte) (z85 a0 a1 a2) (some (6,5))))
 | _=>(false,.bad)
def s_z46:List AV→Bool×AV
 | [.dat (.sl .byte) a0 _]=>(qDN a0,(.dat (.sl .byte) (z46 a0) (some (2,5))))
 | _=>(false,.bad)
def s_z132:List AV→Bool×AV
 | [.dat (.int .i64) a0 _]=>(true,(.dat .byte (z132 a0) none))
 | _=>(false,.bad)
def s_z88:List AV→Bool×AV
 | [.dat (.sl .byte) a0 _]=>(qME a0,(.dat (.sl .byte) (z88 a0) (some (2,5))))
 | _=>(false,.bad)
def s_z47:List AV→Bool×AV
 | [.dat (.sl .byte) a0 _]=>(qHL a0,(.dat (.sl .byte) (z47 a0) none))
 | _=>(false,.bad)
def s_z15:List AV→Bool×AV
 | [.dat (.int .i64) a0 _,.dat (.int .i64) a1 _,.dat (.sl .byte) a2 _]=>(qDQ a0 a1 a2,(.tup [(.dat (.sl .byte) ((z15 a0 a1 a2).1) none),(.dat (.int .i64) ((z15 a0 a1 a2).2) none)]))
 | _=>(false,.bad)
def s_z75:List AV→Bool×AV
 | [.dat (.int .i64) a0 _,.dat (.int .i64) a1 _,.dat (.sl (.int .i32)) a2 _]=>(qBn a0 a1 a2,(.tup [(.dat (.sl .byte) ((z75 a0 a1 a2).1) none),(.dat (.int .i64) ((z75 a0 a1 a2).2) none)]))
 | _=>(false,.bad)
def s_z32:List AV→Bool×AV
 | [.dat (.sl (.int .i32)) a0 _,.dat (.int .i64) a1 _]=>(qku a0 a1,(.tup [(.dat (.sl (.sl .byte)) ((z32 a0 a1).1) none),(.dat (.int .i64) ((z32 a0 a1).2) none)]))
 | _=>(false,.bad)
def s_z77:List AV→Bool×AV
 | [.dat (.sl (.sl .byte)) a0 _,.dat (.sl .byte) a1 _]=>(qsZ a0 a1,(.dat (.sl .byte) (z77 a0 a1) none))
 | _=>(false,.bad)
def s_z34:List AV→Bool×AV
 | [.dat (.sl (.int .i32)) a0 _,.dat (.int .i64) a1 _]=>(qFF a0 a1,(.tup [(.dat (.sl .byte) ((z34 a0 a1).1) none),(.dat (.int .i64) ((z34 a0 a1).2) none)]))
 | _=>(false,.bad)
def s_z36:List AV→Bool×AV
 | [.dat (.sl (.int .i32)) a0 _,.dat (.int .i64) a1 _]=>(qFG a0 a1,(.dat (.int .i64) (z36 a0 a1) none))
 | _=>(false,.bad)
def s_z27:List AV→Bool×AV
 | []=>(true,(.dat .bool z27 none))
 | _=>(false,.bad)
def s_z9:List AV→Bool×AV
 | [.dat (.sl (.int .i32)) a0 _,.dat (.int .i64) a1 _]=>(z9_ok a0 a1,(.dat .bool (z9 a0 a1) none))
 | _=>(false,.bad)
theorem quQ:qe Gc Tryz.prog 241 s_z241:=fun w S hg vals avs r h hS ha=>by
 unfold s_z241 at h
 split at h
 ·simp only [Prod.mk.injEq,true_and] at h
  subst h
  exact qtw Tryz.func241 (by kernel_rfl) (by kernel_rfl) (by kernel_rfl) (by kernel_rfl) hS ha
 ·cases h
theorem qpD:qe Gc Tryz.prog 38 s_z38:=fun w S hg vals avs r h hS ha=>by
 unfold s_z38 at h
 split at h
 ·obtain ⟨hp,rfl⟩:=Prod.mk.inj h
  exact qzj hS ha (qh hp)
 ·cases h
theorem quR:qe Gc Tryz.prog 201 s_z201:=fun w S hg vals avs r h hS ha=>by
 unfold s_z201 at h
 split at h
 ·obtain ⟨hp,rfl⟩:=Prod.mk.inj h
  have hp':=of_decide_eq_true hp
  exact qta hg.2 hS ha hp'.1 hp'.2
 ·cases h
theorem qAp:qe Gc Tryz.prog 77 s_z77:=fun w S hg vals avs r h hS ha=>by
 unfold s_z77 at h
 split at h
 ·obtain ⟨hp,rfl⟩:=Prod.mk.inj h
  exact qwU hS ha hp
 ·cases h
theorem qAq:qe Gc Tryz.prog 68 s_z68:=fun w S hg vals avs r h hS ha=>by
 unfold s_z68 at h
 split at h
 ·obtain ⟨hp,rfl⟩:=Prod.mk.inj h
  exact quM hS ha (qh hp)
 ·cases h
def E_z41:EnvP:=eQ [] 38 (some [2]) (fun x=>if x=3 then some [0,3,4] else none) (fun x=>if x=0 then some [3] else if x=1 then some [0,3,4] else none) (fun x=>if x=2 then some (.psl 22 (.osl 5 .byte)) else if x=6 then some (.psl 22 (.osl 5 .byte)) else if x=22 then some (.psl 22 (.osl 5 .byte)) else if x=23 then some (.psl 22 (.osl 5 .byte)) else if x=35 then some (.osl 5 .byte) else none)
def C_z41:Code:=cO Tryz.f41
def R_z41:Array ResultVar:=Tryz.f41.results
noncomputable def qlx (K:Ex→Fr→Option AV):=fun out3=>K (.exit 0) (frOf [(3,(.pv (.psl 22 (.osl 5 .byte)) out3 none))])
def qpE (n:Nat):Ex→Fr→Option AV:=qo 0 (E_z41.cutb 0) (kSeq (evCP E_z41 (evLP E_z41 n) (sub C_z41 [1,1,1])) (kFnP E_z41 R_z41))
def quS (s0:List UInt8) (out3:List (List UInt8)) (i4:Int):Fr:=frOf [(0,(.dat (.sl .byte) s0 none)),(3,(.pv (.psl 22 (.osl 5 .byte)) out3 none)),(4,(.dat (.int .i64) i4 none))]
theorem qAr (K:Ex→Fr→Option AV):∀ (n:Nat) (s0:List UInt8) (out3:List (List UInt8)) (i4:Int),evLP E_z41 n (sub C_z41 [1,1,0,1,0,0]) K (quS s0 out3 i4)=qkv (qlx K) n s0 out3 i4:=by
 intro n
 induction n with
 | zero=>intros; rfl
 | succ n IH =>
 intro s0 out3 i4
 have ih:(fun s0 out3 i4=>evLP E_z41 n (sub C_z41 [1,1,0,1,0,0]) K (quS s0 out3 i4))=qkv (qlx K) n:=by
  funext s0 out3 i4
  exact IH s0 out3 i4
 show _=qeG (qlx K) (qkv (qlx K) n) n s0 out3 i4
 rw [← ih]
 kernel_rfl
theorem qsn (n:Nat) (out3:List (List UInt8)):(qpE n) (.exit 0) (frOf [(3,(.pv (.psl 22 (.osl 5 .byte)) out3 none))])=qgX n out3:=by
 kernel_rfl
theorem qNc (n:Nat) (s0:List UInt8) (o0:Lab):evFnP E_z41 n C_z41 R_z41 [.dat (.sl .byte) s0 o0]=qBJ n s0:=by
 unfold qBJ
 rw [show qkv (qgX n) n=(fun s0 out3 i4=>evLP E_z41 n (sub C_z41 [1,1,0,1,0,0]) (qpE n) (quS s0 out3 i4)) from by
  funext s0 out3 i4
  refine Eq.trans ?_ (qAr (qpE n) n s0 out3 i4).symm
  rw [show (qlx (qpE n))=(qgX n) from by
   funext out3
   exact qsn n out3]
  all_goals kernel_rfl]
 kernel_rfl
theorem qAs:qe Gc Tryz.prog 41 s_z41:=by
 refine sQ (E:=E_z41) (c:=C_z41) rfl (fun w S hg=>qc) Tryz.func41 ?_
 intro avs r h
 unfold s_z41 at h
 split at h
 ·obtain ⟨hp,rfl⟩:=Prod.mk.inj h
  obtain ⟨n,hn⟩:=qGL _ hp
  exact ⟨n,_,(qNc n _ _).trans hn,.inl rfl⟩
 ·cases h
def E_z81:EnvP:=eQ [] 12 (some [2]) nC nC nP
def C_z81:Code:=cO Tryz.f81
def R_z81:Array ResultVar:=Tryz.f81.results
theorem qNd (n:Nat) (c0:UInt8) (o0:Lab):evFnP E_z81 n C_z81 R_z81 [.dat .byte c0 o0]=qFZ n c0:=by
 kernel_rfl
theorem qpF:qe Gc Tryz.prog 81 s_z81:=by
 refine sQ (E:=E_z81) (c:=C_z81) rfl (fun w S hg=>qc) Tryz.func81 ?_
 intro avs r h
 unfold s_z81 at h
 split at h <;> cases h
 obtain ⟨n,hn⟩:=qGH _
 exact ⟨n,_,(qNd n _ _).trans hn,.inl rfl⟩
def E_z42:EnvP:=eQ [(81,s_z81)] 9 (some [2]) nC (fun x=>if x=0 then some [] else none) nP
def C_z42:Code:=cO Tryz.f42
def R_z42:Array ResultVar:=Tryz.f42.results
theorem qNe (n:Nat) (c0:UInt8) (o0:Lab):evFnP E_z42 n C_z42 R_z42 [.dat .byte c0 o0]=qGa n c0:=by
 kernel_rfl
theorem qAt:qe Gc Tryz.prog 42 s_z42:=by
 refine sQ (E:=E_z42) (c:=C_z42) rfl (fun w S hg=>(qb (qpF w S hg) qc)) Tryz.func42 ?_
 intro avs r h
 unfold s_z42 at h
 split at h <;> cases h
 obtain ⟨n,hn⟩:=qGI _
 exact ⟨n,_,(qNe n _ _).trans hn,.inl rfl⟩
def qjk:EnvP:=eQ [] 17 (some [4]) (fun x=>if x=2 then some [0,1,5] else none) (fun x=>if x=0 then some [] else if x=1 then some [0,1,5] else none) nP
def qso:Code:=cO Tryz.f179
def qIz:Array ResultVar:=Tryz.f179.results
noncomputable def qjl (K:Ex→Fr→Option AV):=fun s4=>K .ret (frOf [(4,(.dat .bool s4 none))])
def qjm (n:Nat):Ex→Fr→Option AV:=qo 0 (qjk.cutb 0) (kSeq (evCP qjk (evLP qjk n) (sub qso [1,1])) (kFnP qjk qIz))
def qnb (s0:List UInt8) (c1:UInt8) (i5:Int):Fr:=frOf [(0,(.dat .str s0 none)),(1,(.dat .byte c1 none)),(5,(.dat (.int .i64) i5 none))]
theorem quT (K:Ex→Fr→Option AV):∀ (n:Nat) (s0:List UInt8) (c1:UInt8) (i5:Int),evLP qjk n (sub qso [1,0,1,0,0]) K (qnb s0 c1 i5)=qdP (qjl K) (K (.exit 0) (frOf [])) n s0 c1 i5:=by
 intro n
 induction n with
 | zero=>intros; rfl
 | succ n IH =>
 intro s0 c1 i5
 have ih:(fun s0 c1 i5=>evLP qjk n (sub qso [1,0,1,0,0]) K (qnb s0 c1 i5))=qdP (qjl K) (K (.exit 0) (frOf [])) n:=by
  funext s0 c1 i5
  exact IH s0 c1 i5
 show _=qcf (qjl K) (K (.exit 0) (frOf [])) (qdP (qjl K) (K (.exit 0) (frOf [])) n) n s0 c1 i5
 rw [← ih]
 kernel_rfl
theorem qnc (n:Nat)  : (qjm n) (.exit 0) (frOf [])=qdQ n  := by
 kernel_rfl
theorem qIA (n:Nat) (s0:List UInt8) (o0:Lab) (c1:UInt8) (o1:Lab):evFnP qjk n qso qIz [.dat .str s0 o0,.dat .byte c1 o1]=qlW n s0 c1:=by
 unfold qlW
 rw [show qdP qeH (qdQ n) n=(fun s0 c1 i5=>evLP qjk n (sub qso [1,0,1,0,0]) (qjm n) (qnb s0 c1 i5)) from by
  funext s0 c1 i5
  refine Eq.trans ?_ (quT (qjm n) n s0 c1 i5).symm
  rw [show ((qjm n) (.exit 0) (frOf []))=(qdQ n) from by
   exact qnc n ]
  all_goals kernel_rfl]
 kernel_rfl
theorem quU:qe Gc Tryz.prog 179 s_z179:=by
 refine sQ (E:=qjk) (c:=qso) rfl (fun w S hg=>qc) Tryz.func179 ?_
 intro avs r h
 unfold s_z179 at h
 split at h
 ·obtain ⟨hp,rfl⟩:=Prod.mk.inj h
  obtain ⟨n,hn⟩:=qCc _ _ hp
  exact ⟨n,_,(qIA n _ _ _ _).trans hn,.inl rfl⟩
 ·cases h
def qaF:EnvP:=eQ [(179,s_z179)] 104 (some [2]) nC nC nP
def qaG:Code:=cO Tryz.f128
def qaO:Array ResultVar:=Tryz.f128.results
def resI:Option AV→Int→Bool
 | some (.dat (.int .i64) x none),v=>x==v
 | _,_=>false
theorem qIB {o:Option AV} {v:Int} (h:resI o v=true):o=some (.dat (.int .i64) v none):=by
 unfold resI at h
 split at h
 ·simp only [beq_iff_eq] at h
  subst h
  rfl
 ·cases h
theorem qNf:∀ i:Fin 16,resI (evFnP qaF 1 qaG qaO [.dat .byte (UInt8.ofNat (0+i.val)) none]) (z128 (UInt8.ofNat (0+i.val)))=true:=by decide +kernel
theorem qNg:∀ i:Fin 16,resI (evFnP qaF 1 qaG qaO [.dat .byte (UInt8.ofNat (16+i.val)) none]) (z128 (UInt8.ofNat (16+i.val)))=true:=by decide +kernel
theorem qNh:∀ i:Fin 16,resI (evFnP qaF 1 qaG qaO [.dat .byte (UInt8.ofNat (32+i.val)) none]) (z128 (UInt8.ofNat (32+i.val)))=true:=by decide +kernel
theorem qNi:∀ i:Fin 16,resI (evFnP qaF 1 qaG qaO [.dat .byte (UInt8.ofNat (48+i.val)) none]) (z128 (UInt8.ofNat (48+i.val)))=true:=by decide +kernel
theorem qNj:∀ i:Fin 16,resI (evFnP qaF 1 qaG qaO [.dat .byte (UInt8.ofNat (64+i.val)) none]) (z128 (UInt8.ofNat (64+i.val)))=true:=by decide +kernel
theorem qNk:∀ i:Fin 16,resI (evFnP qaF 1 qaG qaO [.dat .byte (UInt8.ofNat (80+i.val)) none]) (z128 (UInt8.ofNat (80+i.val)))=true:=by decide +kernel
theorem qNl:∀ i:Fin 16,resI (evFnP qaF 1 qaG qaO [.dat .byte (UInt8.ofNat (96+i.val)) none]) (z128 (UInt8.ofNat (96+i.val)))=true:=by decide +kernel
theorem qNm:∀ i:Fin 16,resI (evFnP qaF 1 qaG qaO [.dat .byte (UInt8.ofNat (112+i.val)) none]) (z128 (UInt8.ofNat (112+i.val)))=true:=by decide +kernel
theorem qNn:∀ i:Fin 16,resI (evFnP qaF 1 qaG qaO [.dat .byte (UInt8.ofNat (128+i.val)) none]) (z128 (UInt8.ofNat (128+i.val)))=true:=by decide +kernel
theorem qNo:∀ i:Fin 16,resI (evFnP qaF 1 qaG qaO [.dat .byte (UInt8.ofNat (144+i.val)) none]) (z128 (UInt8.ofNat (144+i.val)))=true:=by decide +kernel
theorem qIC:∀ i:Fin 16,resI (evFnP qaF 1 qaG qaO [.dat .byte (UInt8.ofNat (160+i.val)) none]) (z128 (UInt8.ofNat (160+i.val)))=true:=by decide +kernel
theorem qID:∀ i:Fin 16,resI (evFnP qaF 1 qaG qaO [.dat .byte (UInt8.ofNat (176+i.val)) none]) (z128 (UInt8.ofNat (176+i.val)))=true:=by decide +kernel
theorem qIE:∀ i:Fin 16,resI (evFnP qaF 1 qaG qaO [.dat .byte (UInt8.ofNat (192+i.val)) none]) (z128 (UInt8.ofNat (192+i.val)))=true:=by decide +kernel
theorem qIF:∀ i:Fin 16,resI (evFnP qaF 1 qaG qaO [.dat .byte (UInt8.ofNat (208+i.val)) none]) (z128 (UInt8.ofNat (208+i.val)))=true:=by decide +kernel
theorem qIG:∀ i:Fin 16,resI (evFnP qaF 1 qaG qaO [.dat .byte (UInt8.ofNat (224+i.val)) none]) (z128 (UInt8.ofNat (224+i.val)))=true:=by decide +kernel
theorem qIH:∀ i:Fin 16,resI (evFnP qaF 1 qaG qaO [.dat .byte (UInt8.ofNat (240+i.val)) none]) (z128 (UInt8.ofNat (240+i.val)))=true:=by decide +kernel
theorem qFA:∀ i:Fin 256,resI (evFnP qaF 1 qaG qaO [.dat .byte (UInt8.ofNat (i.val)) none]) (z128 (UInt8.ofNat (i.val)))=true:=fun ⟨i,hi⟩=>by
 rcases (show i / 16=0∨i / 16=1∨i / 16=2∨i / 16=3∨i / 16=4∨i / 16=5∨i / 16=6∨i / 16=7∨i / 16=8∨i / 16=9∨i / 16=10∨i / 16=11∨i / 16=12∨i / 16=13∨i / 16=14∨i / 16=15 by omega) with e | e | e | e | e | e | e | e | e | e | e | e | e | e | e | e
 ·have h:=qNf ⟨i - 0,by omega⟩
  have e2:0+(i - 0)=i:=by omega
  simp only [e2] at h
  exact h
 ·have h:=qNg ⟨i - 16,by omega⟩
  have e2:16+(i - 16)=i:=by omega
  simp only [e2] at h
  exact h
 ·have h:=qNh ⟨i - 32,by omega⟩
  have e2:32+(i - 32)=i:=by omega
  simp only [e2] at h
  exact h
 ·have h:=qNi ⟨i - 48,by omega⟩
  have e2:48+(i - 48)=i:=by omega
  simp only [e2] at h
  exact h
 ·have h:=qNj ⟨i - 64,by omega⟩
  have e2:64+(i - 64)=i:=by omega
  simp only [e2] at h
  exact h
 ·have h:=qNk ⟨i - 80,by omega⟩
  have e2:80+(i - 80)=i:=by omega
  simp only [e2] at h
  exact h
 ·have h:=qNl ⟨i - 96,by omega⟩
  have e2:96+(i - 96)=i:=by omega
  simp only [e2] at h
  exact h
 ·have h:=qNm ⟨i - 112,by omega⟩
  have e2:112+(i - 112)=i:=by omega
  simp only [e2] at h
  exact h
 ·have h:=qNn ⟨i - 128,by omega⟩
  have e2:128+(i - 128)=i:=by omega
  simp only [e2] at h
  exact h
 ·have h:=qNo ⟨i - 144,by omega⟩
  have e2:144+(i - 144)=i:=by omega
  simp only [e2] at h
  exact h
 ·have h:=qIC ⟨i - 160,by omega⟩
  have e2:160+(i - 160)=i:=by omega
  simp only [e2] at h
  exact h
 ·have h:=qID ⟨i - 176,by omega⟩
  have e2:176+(i - 176)=i:=by omega
  simp only [e2] at h
  exact h
 ·have h:=qIE ⟨i - 192,by omega⟩
  have e2:192+(i - 192)=i:=by omega
  simp only [e2] at h
  exact h
 ·have h:=qIF ⟨i - 208,by omega⟩
  have e2:208+(i - 208)=i:=by omega
  simp only [e2] at h
  exact h
 ·have h:=qIG ⟨i - 224,by omega⟩
  have e2:224+(i - 224)=i:=by omega
  simp only [e2] at h
  exact h
 ·have h:=qIH ⟨i - 240,by omega⟩
  have e2:240+(i - 240)=i:=by omega
  simp only [e2] at h
  exact h
theorem qII (c:UInt8) (o:Lab):evFnP qaF 1 qaG qaO [.dat .byte c o]=some (.dat (.int .i64) (z128 c) none):=by
 have h:resI (evFnP qaF 1 qaG qaO [.dat .byte c none]) (z128 c)=true:=qGG (P:=fun c=>resI (evFnP qaF 1 qaG qaO [.dat .byte c none]) (z128 c)=true) qFA c
 have e:evFnP qaF 1 qaG qaO [.dat .byte c o]=evFnP qaF 1 qaG qaO [.dat .byte c none]:=by
  unfold evFnP
  have:(fun t=>(([.dat .byte c o]:List AV).getD t .bad).strip)=fun t=>(([.dat .byte c none]:List AV).getD t .bad).strip:=by
   funext t
   match t with
   | 0=>rfl
   | t+1=>rfl
  rw [this]
  rfl
 rw [e]
 exact qIB h
theorem quV:qe Gc Tryz.prog 128 s_z128:=by
 refine qN qbc (E:=qaF) (fn:=Tryz.f128) (c:=qaG) (qw rfl qhU) (fun w S hg=>⟨⟨(qb (quU w S hg) qc),fun f sp h=>qdr f sp h w S⟩,qbr w S hg,(fun _ _ h=>by cases h),(fun _ _ h=>by cases h),(fun _ _ h=>by cases h),(fun t kt vt h=>qfe t kt vt h)⟩) follows Tryz.func128 (by kernel_rfl) (by kernel_rfl) (by kernel_rfl) ?_
 intro avs r h
 unfold s_z128 at h
 split at h
 ·simp only [Prod.mk.injEq,true_and] at h
  subst h
  exact ⟨1,_,qII _ _,.inl rfl⟩
 ·cases h
def E_z82:EnvP:=eQ [(128,s_z128)] 10 (some [4]) nC nC nP
def C_z82:Code:=cO Tryz.f82
def R_z82:Array ResultVar:=Tryz.f82.results
theorem qNp (n:Nat) (c0:UInt8) (o0:Lab) (kinds1:Int) (o1:Lab):evFnP E_z82 n C_z82 R_z82 [.dat .byte c0 o0,.dat (.int .i64) kinds1 o1]=qMi n c0 kinds1:=by
 kernel_rfl
theorem qjn:qe Gc Tryz.prog 82 s_z82:=by
 refine sQ (E:=E_z82) (c:=C_z82) rfl (fun w S hg=>(qb (quV w S hg) qc)) Tryz.func82 ?_
 intro avs r h
 unfold s_z82 at h
 split at h <;> cases h
 obtain ⟨n,hn⟩:=qGE _ _
 exact ⟨n,_,(qNp n _ _ _ _).trans hn,.inl rfl⟩
def E_z43:EnvP:=eQ [(82,s_z82)] 22 (some [4]) (fun x=>if x=3 then some [0,1,5,6] else none) (fun x=>if x=0 then some [5] else if x=1 then some [0,1,5,6] else none) nP
def C_z43:Code:=cO Tryz.f43
def R_z43:Array ResultVar:=Tryz.f43.results
noncomputable def qly (K:Ex→Fr→Option AV):=fun n5=>K (.exit 0) (frOf [(5,(.dat (.int .i64) n5 none))])
def qpG (n:Nat):Ex→Fr→Option AV:=qo 0 (E_z43.cutb 0) (kSeq (evCP E_z43 (evLP E_z43 n) (sub C_z43 [1,1,1])) (kFnP E_z43 R_z43))
def quW (s0:List UInt8) (kinds1:Int) (n5:Int) (i6:Int):Fr:=frOf [(0,(.dat (.sl .byte) s0 none)),(1,(.dat (.int .i64) kinds1 none)),(5,(.dat (.int .i64) n5 none)),(6,(.dat (.int .i64) i6 none))]
theorem qAu (K:Ex→Fr→Option AV):∀ (n:Nat) (s0:List UInt8) (kinds1:Int) (n5:Int) (i6:Int),evLP E_z43 n (sub C_z43 [1,1,0,1,0,0]) K (quW s0 kinds1 n5 i6)=qkw (qly K) n s0 kinds1 n5 i6:=by
 intro n
 induction n with
 | zero=>intros; rfl
 | succ n IH =>
 intro s0 kinds1 n5 i6
 have ih:(fun s0 kinds1 n5 i6=>evLP E_z43 n (sub C_z43 [1,1,0,1,0,0]) K (quW s0 kinds1 n5 i6))=qkw (qly K) n:=by
  funext s0 kinds1 n5 i6
  exact IH s0 kinds1 n5 i6
 show _=qeI (qly K) (qkw (qly K) n) n s0 kinds1 n5 i6
 rw [← ih]
 kernel_rfl
theorem qsp (n:Nat) (n5:Int):(qpG n) (.exit 0) (frOf [(5,(.dat (.int .i64) n5 none))])=qgY n n5:=by
 kernel_rfl
theorem qNq (n:Nat) (s0:List UInt8) (o0:Lab) (kinds1:Int) (o1:Lab):evFnP E_z43 n C_z43 R_z43 [.dat (.sl .byte) s0 o0,.dat (.int .i64) kinds1 o1]=qBK n s0 kinds1:=by
 unfold qBK
 rw [show qkw (qgY n) n=(fun s0 kinds1 n5 i6=>evLP E_z43 n (sub C_z43 [1,1,0,1,0,0]) (qpG n) (quW s0 kinds1 n5 i6)) from by
  funext s0 kinds1 n5 i6
  refine Eq.trans ?_ (qAu (qpG n) n s0 kinds1 n5 i6).symm
  rw [show (qly (qpG n))=(qgY n) from by
   funext n5
   exact qsp n n5]
  all_goals kernel_rfl]
 kernel_rfl
theorem qAv:qe Gc Tryz.prog 43 s_z43:=by
 refine sQ (E:=E_z43) (c:=C_z43) rfl (fun w S hg=>(qb (qjn w S hg) qc)) Tryz.func43 ?_
 intro avs r h
 unfold s_z43 at h
 split at h
 ·obtain ⟨hp,rfl⟩:=Prod.mk.inj h
  obtain ⟨n,hn⟩:=qGF _ _ hp
  exact ⟨n,_,(qNq n _ _ _ _).trans hn,.inl rfl⟩
 ·cases h
def E_z12:EnvP:=eQ [(41,s_z41),(42,s_z42),(43,s_z43)] 93 (some [2,3]) nC nC nP
def C_z12:Code:=cO Tryz.f12
def R_z12:Array ResultVar:=Tryz.f12.results
theorem qNr (n:Nat) (s0:List UInt8) (o0:Lab):evFnP E_z12 n C_z12 R_z12 [.dat (.sl .byte) s0 o0]=qGb n s0:=by
 kernel_rfl
theorem qjo:qe Gc Tryz.prog 12 s_z12:=by
 refine sQ (E:=E_z12) (c:=C_z12) rfl (fun w S hg=>(qb (qAs w S hg) (qb (qAt w S hg) (qb (qAv w S hg) qc)))) Tryz.func12 ?_
 intro avs r h
 unfold s_z12 at h
 split at h
 ·obtain ⟨hp,rfl⟩:=Prod.mk.inj h
  obtain ⟨n,hn⟩:=qGJ _ hp
  exact ⟨n,_,(qNr n _ _).trans hn,.inl rfl⟩
 ·cases h
def E_z92:EnvP:=eQ [] 19 (some [2]) nC (fun x=>if x=0 then some [] else none) nP
def C_z92:Code:=cO Tryz.f92
def R_z92:Array ResultVar:=Tryz.f92.results
theorem qNs (n:Nat) (n0:Int) (o0:Lab):evFnP E_z92 n C_z92 R_z92 [.dat (.int .i64) n0 o0]=qGc n n0:=by
 kernel_rfl
theorem qAw:qe Gc Tryz.prog 92 s_z92:=by
 refine sQ (E:=E_z92) (c:=C_z92) rfl (fun w S hg=>qc) Tryz.func92 ?_
 intro avs r h
 unfold s_z92 at h
 split at h <;> cases h
 obtain ⟨n,hn⟩:=qGR _
 exact ⟨n,_,(qNs n _ _).trans hn,.inl rfl⟩
end
end Go.Av
