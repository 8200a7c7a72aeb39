import Derived.Test.YtmdadpepccbpcaaGreatDoorPoQ
import Derived.Test.YtmdadpepccbpcaaGreatDoorPoD
import Derived.Test.YtmdadpepccbpcaaGreatDoorAvE
import Derived.Test.YtmdadpepccbpcaaGreatDoorProg
import Derived.KernelRfl
namespace Go.Av
set_option linter.unusedSimpArgs false
set_option linter.unusedVariables false
section
noncomputable section
open Go.Proofs Go.Proofs.Tryz
set_option maxRecDepth 100000
set_option linter.unusedVariables false
variable {E:EnvP} {f:FuncId} {fn:Func} {c:Code} {spec:List AV→Bool×AV}
def tis:List (TypeId×TI):=[(2,⟨some (.int .i64),8,0⟩),
 (3,⟨some (.int .i64),8,0⟩),
 (4,⟨some .bool,1,0⟩),
 (5,⟨some .byte,1,0⟩),
 (6,⟨some .byte,1,0⟩),
 (7,⟨some (.pair (.int .i64) (.pair (.int .i64) (.pair .bool (.pair .byte .unit)))),24,0⟩),
 (8,⟨some (.pair (.int .i64) (.pair (.int .i64) (.pair .bool (.pair .byte .unit)))),24,0⟩),
 (9,⟨some .str,16,0⟩),
 (10,⟨some .str,16,0⟩),
 (11,⟨some .str,16,0⟩),
 (12,⟨some (.int .u64),8,0⟩),
 (13,⟨some (.pair .str (.pair (.int .u64) .unit)),24,0⟩),
 (14,⟨some (.pair .str (.pair (.int .u64) .unit)),24,0⟩),
 (21,⟨some (.int .i32),4,0⟩),
 (22,⟨some (.sl (.int .i32)),24,21⟩),
 (24,⟨some (.sl .byte),24,5⟩),
 (25,⟨some (.int .i64),8,0⟩),
 (34,⟨some (.pair (.int .i64) (.pair (.int .i64) .unit)),16,0⟩),
 (35,⟨some (.pair (.int .i64) (.pair (.int .i64) .unit)),16,0⟩),
 (46,⟨some (.arr 2 (.sl .byte)),48,24⟩),
 (81,⟨some (.sl (.sl .byte)),24,24⟩),
 (90,⟨some (.sl (.int .i64)),24,3⟩),
 (101,⟨some (.sl .str),24,9⟩),
 (107,⟨some (.int .u64),8,0⟩),
 (117,⟨some (.pair (.sl .byte) (.pair (.int .i64) .unit)),32,0⟩),
 (118,⟨some (.pair (.sl .byte) (.pair (.int .i64) .unit)),32,0⟩),
 (137,⟨some (.int .u32),4,0⟩),
 (139,⟨some (.int .u64),8,0⟩),
 (143,⟨some (.arr 256 .bool),256,4⟩),
 (144,⟨some (.arr 256 .bool),256,4⟩),
 (151,⟨some (.pair .byte (.pair (.int .i32) .unit)),8,0⟩),
 (152,⟨some (.pair .byte (.pair (.int .i32) .unit)),8,0⟩),
 (153,⟨some (.arr 8 (.pair .byte (.pair (.int .i32) .unit))),64,152⟩),
 (167,⟨some (.arr 32 .byte),32,5⟩),
 (168,⟨some (.arr 64 .byte),64,5⟩),
 (169,⟨some (.arr 4 .byte),4,5⟩),
 (170,⟨some (.arr 32 (.int .i32)),128,21⟩),
 (184,⟨some (.arr 256 .byte),256,5⟩),
 (185,⟨some (.pair .byte (.pair .byte .unit)),2,0⟩),
 (186,⟨some (.pair .byte (.pair .byte .unit)),2,0⟩),
 (187,⟨some (.arr 16 (.pair .byte (.pair .byte .unit))),32,186⟩),
 (199,⟨some .byte,1,0⟩),
 (200,⟨some .byte,1,0⟩),
 (203,⟨some (.int .i32),4,0⟩),
 (204,⟨some (.int .i32),4,0⟩)]
theorem qeD:(tis.all fun p=>tyB prog (tiOf tis) p.1)=true:=by kernel_rfl
theorem follows:prog.follows .mixedOrders=true:=by kernel_rfl
abbrev nB:Bool×AV:=(false,.bad)
abbrev Sp:=List AV→Bool×AV
abbrev KT:=Ex→Fr→OA
abbrev FnL:=List (FuncId×(List AV→Bool×AV))
abbrev CutL:=Nat→Option (List Nat)
def eQ (l:FnL) (nt:Nat) (r:Option (List Nat)) (a b:CutL) (p:Nat→Option PSh):EnvP:=⟨⟨tiOf tis,fnsOf l,cnsOf [],[],nt,a,b,r⟩,p,fun _=>none,fun _=>[],fun _=>none,fun _=>none,fun _=>none,fun _=>none⟩
def cO (f:Func):Code:=f.body.getD .skip
def nC:CutL:=fun _=>none
def nP:Nat→Option PSh:=fun _=>none
theorem sQ {l:FnL} {nt:Nat} {r:Option (List Nat)} {a b:CutL} {p:Nat→Option PSh} (hE:E=eQ l nt r a b p) (hl:∀ w S,G w S→∀ f,qaj prog f (fnsOf l f) w S)
 (hf:prog.funcs[f]? = some fn) (hspec:∀ avs r',spec avs=(true,r')→∃ n v,evFnP E n c fn.results avs=some v∧(v=r'∨v.strip=r')) (hb:fn.body=some c:=by kernel_rfl) (hnt:fn.ntmps=nt:=by kernel_rfl) (hname:(fn.name == "runtime.NumGoroutine")=false:=by kernel_rfl):qef G prog f spec:=by
 subst hE;exact qcC G_stays (E:=eQ l nt r a b p) (qo rfl qeD) (fun w S hg=>⟨⟨hl w S hg,fun f sp h=>qP f sp h w S⟩,qW w S hg,(fun _ _ h=>by cases h),(fun f sp h=>qah f sp h),(fun f it h=>qai f it h),(fun t kt vt h=>qX t kt vt h)⟩) follows hf hb hnt hname hspec
theorem sZ (l:FnL) (nt:Nat) (r:Option (List Nat)) (a b:CutL) (p:Nat→Option PSh) (hl:∀ w S,G w S→∀ f,qaj prog f (fnsOf l f) w S)
 (hf:prog.funcs[f]? = some fn) (hspec:∀ avs r',spec avs=(true,r')→∃ n v,evFnP (eQ l nt r a b p) n (cO fn) fn.results avs=some v∧(v=r'∨v.strip=r')) (hb:fn.body=some (cO fn):=by kernel_rfl) (hnt:fn.ntmps=nt:=by kernel_rfl) (hname:(fn.name == "runtime.NumGoroutine")=false:=by kernel_rfl):qef G prog f spec :=
 sQ (E:=eQ l nt r a b p) (c:=cO fn) rfl hl hf hspec hb hnt hname
theorem eX {rs:Array ResultVar} {av:List AV} {r:AV} {g:Nat→OA} (hm:∃ n,g n=some r) (hv:∀ n,evFnP E n c rs av=g n):∃ n v,evFnP E n c rs av=some v∧(v=r∨v.strip=r):=by
 obtain⟨n,hn⟩:=hm;exact⟨n,_,(hv n).trans hn,.inl rfl⟩
theorem fC {sp:List AV→Bool×AV} {l:FnL} (h:qef G prog f sp) (hl:∀ w S,G w S→∀ g,qaj prog g (fnsOf l g) w S):∀ w S,G w S→∀ g,qaj prog g (fnsOf ((f,sp) :: l) g) w S:=fun w S hg=>qq (h w S hg) (hl w S hg)
theorem fN:∀ w S,G w S→∀ g,qaj prog g (fnsOf [] g) w S:=fun _ _ _=>qQ
theorem sG (hF:∀ w S,G w S→EnvOk prog E w S) (hf:prog.funcs[f]? = some fn) (hspec:∀ avs r',spec avs=(true,r')→∃ n v,evFnP E n (cO fn) fn.results avs=some v∧(v=r'∨v.strip=r')) (hT:E.ti=tiOf tis:=by kernel_rfl) (hb:fn.body=some (cO fn):=by kernel_rfl) (hnt:fn.ntmps=E.nt:=by kernel_rfl) (hname:(fn.name == "runtime.NumGoroutine")=false:=by kernel_rfl):qef G prog f spec :=
 qcC G_stays (qo hT qeD) hF follows hf hb hnt hname hspec
theorem sM (hF:∀ w S,G w S→EnvOk prog E w S) (hf:prog.funcs[f]? = some fn) (hspec:∀ avs r,spec avs=(true,r)→∃ n,evFnM E n (cO fn) fn.results avs=some r) (hT:E.ti=tiOf tis:=by kernel_rfl) (hb:fn.body=some (cO fn):=by kernel_rfl) (hnt:fn.ntmps=E.nt:=by kernel_rfl) (hname:(fn.name == "runtime.NumGoroutine")=false:=by kernel_rfl):qil G prog f spec :=
 qmZ G_stays (qo hT qeD) hF follows hf hb hnt hname hspec
theorem sY (l:FnL) (nt:Nat) (r:Option (List Nat)) (hl:∀ w S,G w S→∀ f,qaj prog f (fnsOf l f) w S)
 (hf:prog.funcs[f]? = some fn) (hspec:∀ avs r',spec avs=(true,r')→∃ n v,evFnP (eQ l nt r nC nC nP) n (cO fn) fn.results avs=some v∧(v=r'∨v.strip=r')) (hb:fn.body=some (cO fn):=by kernel_rfl) (hnt:fn.ntmps=nt:=by kernel_rfl) (hname:(fn.name == "runtime.NumGoroutine")=false:=by kernel_rfl):qef G prog f spec :=
 sZ l nt r nC nC nP hl hf hspec hb hnt hname
abbrev gG (f:FuncId) (s:List AV→Bool×AV):=qef G prog f s
def s_z164:Sp
 | [df a0 _,dm a1 _]=>(true,(de (z164 a0 a1) none))
 | _=>nB
def s_z141:Sp
 | [db a0 _,dm a1 _]=>(true,(de (z141 a0 a1) none))
 | _=>nB
def s_z80:Sp
 | [db a0 _,dm a1 _]=>(true,(de (z80 a0 a1) none))
 | _=>nB
def s_z169:Sp
 | [db a0 _]=>(qlu a0,(.tup [(di ((z169 a0).1) none),(de ((z169 a0).2) none)]))
 | _=>nB
def s_z165:Sp
 | [db a0 _,di a1 _]=>(que a0 a1,(de (z165 a0 a1) none))
 | _=>nB
def s_z166:Sp
 | [de a0 _]=>(true,(dh (z166 a0) none))
 | _=>nB
def s_z167:Sp
 | [df a0 _]=>(qdK a0,(.tup [(.dat (.arr 256 .bool) ((z167 a0).1) none),(dh ((z167 a0).2) none)]))
 | _=>nB
def s_z168:Sp
 | [.adr (.arr 256 .bool) a0,dm a1 _]=>(true,(dh (z168 a0 a1) none))
 | _=>nB
def s_z109:Sp
 | [db a0 _,df a1 _]=>(qdL a0 a1,(de (z109 a0 a1) none))
 | _=>nB
def s_z194:Sp
 | [db a0 _,db a1 _]=>(true,(dh (z194 a0 a1) none))
 | _=>nB
def s_z171:Sp
 | [db a0 _,db a1 _]=>(true,(dh (z171 a0 a1) none))
 | _=>nB
def s_z110:Sp
 | [db a0 _]=>(true,(de (z110 a0) none))
 | _=>nB
def s_z108:Sp
 | [.abs s V x,.pbox (.leaf (.sl .byte)) b0 none]=>((z108 (fun x a0 a1=>V.spec x [⟨(.sl .byte),a0⟩,⟨(.sl .byte),a1⟩]) x b0).1,.tup [.tup [],.abs s V (z108 (fun x a0 a1=>V.spec x [⟨(.sl .byte),a0⟩,⟨(.sl .byte),a1⟩]) x b0).2.1,.pbox (.leaf (.sl .byte)) ((z108 (fun x a0 a1=>V.spec x [⟨(.sl .byte),a0⟩,⟨(.sl .byte),a1⟩]) x b0).2.2) none])
 | _=>nB
def qEn:Iter:=⟨[.leaf (.sl .byte)],fun s spec x y=>((z108 (fun x a0 a1=>spec x [⟨(.sl .byte),a0⟩,⟨(.sl .byte),a1⟩]) x y.1).1,(z108 (fun x a0 a1=>spec x [⟨(.sl .byte),a0⟩,⟨(.sl .byte),a1⟩]) x y.1).2.1)⟩
def s_z52:Sp
 | [db a0 _]=>(true,(.abs (qcI [.leaf (.sl .byte)]) (clInv 108 [.leaf (.sl .byte)]) (a0,())))
 | _=>nB
def s_z206:Sp
 | [db a0 _,dm a1 _]=>(quf a0 a1,(db (z206 a0 a1) none))
 | _=>nB
def s_z208:Sp
 | [db a0 _,.adr (.arr 256 .bool) a1]=>(qlw a0 a1,(db (z208 a0 a1) none))
 | _=>nB
def s_z210:Sp
 | [db a0 _,df a1 _]=>(qug a0 a1,(db (z210 a0 a1) none))
 | _=>nB
def s_z172:Sp
 | [db a0 _,df a1 _]=>(qiI a0 a1,(db (z172 a0 a1) none))
 | _=>nB
def s_z215:Sp
 | [db a0 _,db a1 _]=>(qiE a0 a1,(dh (z215 a0 a1) none))
 | _=>nB
def s_z173:Sp
 | [db a0 _,db a1 _]=>(qpZ a0 a1,(.tup [(db ((z173 a0 a1).1) none),(dh ((z173 a0 a1).2) none)]))
 | _=>nB
def s_z111:Sp
 | [db a0 _]=>(qqm a0,(.tup [(db ((z111 a0).1) none),(dh ((z111 a0).2) none)]))
 | _=>nB
def s_z228:Sp
 | [dm a0 _]=>(true,(de (z228 a0) none))
 | _=>nB
def s_z236:Sp
 | [df a0 _,dm a1 _]=>(true,(de (z236 a0 a1) none))
 | _=>nB
def s_z216:Sp
 | [df a0 _,dm a1 _]=>(true,(de (z216 a0 a1) none))
 | _=>nB
def s_z229:Sp
 | [df a0 _,dm a1 _]=>(true,(dh (z229 a0 a1) none))
 | _=>nB
def s_z198:Sp
 | [dm a0 _]=>(true,(de (z198 a0) none))
 | _=>nB
def s_z144:Sp
 | [dm a0 _,de a1 _]=>(true,(dh (z144 a0 a1) none))
 | _=>nB
def s_z154:Sp
 | [dm a0 _]=>(true,(dm (z154 a0) none))
 | _=>nB
def s_z230:Sp
 | [dm a0 _]=>(true,(.tup [(de ((z230 a0).1) none),(dh ((z230 a0).2) none)]))
 | _=>nB
def s_z199:Sp
 | [dm a0 _,dm a1 _]=>(true,(.tup [(dm ((z199 a0 a1).1) none),(dh ((z199 a0 a1).2) none)]))
 | _=>nB
def s_z145:Sp
 | [db a0 _,de a1 _,dm a2 _]=>(qiC a0 a1 a2,(.tup [(dm ((z145 a0 a1 a2).1) none),(dh ((z145 a0 a1 a2).2) none)]))
 | _=>nB
def s_z112:Sp
 | [db a0 _]=>(qqn a0,(.tup [(db ((z112 a0).1) none),(de ((z112 a0).2) none)]))
 | _=>nB
def s_z53:Sp
 | [db a0 _]=>(qBL a0,(.tup [(db ((z53 a0).1) none),(dh ((z53 a0).2) none)]))
 | _=>nB
def s_z27:Sp
 | [db a0 _]=>(qBM a0,(db (z27 a0) none))
 | _=>nB
def s_z175:Sp
 | [dm a0 _]=>(true,(.tup [(de ((z175 a0).1) none),(dh ((z175 a0).2) none)]))
 | _=>nB
def s_z174:Sp
 | [.abs s V x,.pbox (.leaf (.sl .byte)) b0 none]=>((z174 (fun x a0 a1=>V.spec x [⟨.byte,a0⟩,⟨(.int .i64),a1⟩]) x b0).1,.tup [.tup [],.abs s V (z174 (fun x a0 a1=>V.spec x [⟨.byte,a0⟩,⟨(.int .i64),a1⟩]) x b0).2.1,.pbox (.leaf (.sl .byte)) ((z174 (fun x a0 a1=>V.spec x [⟨.byte,a0⟩,⟨(.int .i64),a1⟩]) x b0).2.2) none])
 | _=>nB
def qEo:Iter:=⟨[.leaf (.sl .byte)],fun s spec x y=>((z174 (fun x a0 a1=>spec x [⟨.byte,a0⟩,⟨(.int .i64),a1⟩]) x y.1).1,(z174 (fun x a0 a1=>spec x [⟨.byte,a0⟩,⟨(.int .i64),a1⟩]) x y.1).2.1)⟩
def s_z113:Sp
 | [db a0 _]=>(true,(.abs (qcI [.leaf (.sl .byte)]) (clInv 174 [.leaf (.sl .byte)]) (a0,())))
 | _=>nB
def s_z54:Sp
 | [db a0 _]=>(qzO a0,(.tup [(db ((z54 a0).1) none),(de ((z54 a0).2) none)]))
 | _=>nB
def s_z28:Sp
 | [db a0 _]=>(qzP a0,(db (z28 a0) none))
 | _=>nB
def s_z59:Sp
 | [db a0 _]=>(qrO a0,(.dat (.sl (.int .i32)) (z59 a0) (some (2,21))))
 | _=>nB
def s_z114:Sp
 | [di a0 _]=>(true,(di (z114 a0) none))
 | _=>nB
def s_z55:Sp
 | [db a0 _]=>(qzN a0,(.dat (.sl (.int .i32)) (z55 a0) (some (2,21))))
 | _=>nB
def s_z176:Sp
 | []=>(true,(.dat (.arr 8 (.pair .byte (.pair (.int .i32) .unit))) z176 none))
 | _=>nB
def s_z115:Sp
 | [dm a0 _]=>(true,(di (z115 a0) none))
 | _=>nB
def s_z56:Sp
 | [db a0 _]=>(qzL a0,(.dat (.sl (.int .i32)) (z56 a0) (some (2,21))))
 | _=>nB
def s_z177:Sp
 | []=>(true,(.dat (.sl (.int .i32)) z177 none))
 | _=>nB
def s_z116:Sp
 | [dm a0 _]=>(true,(di (z116 a0) none))
 | _=>nB
def s_z57:Sp
 | [db a0 _]=>(qzM a0,(.dat (.sl (.int .i32)) (z57 a0) (some (2,21))))
 | _=>nB
def s_z118:Sp
 | [di a0 _,de a1 _,.pbox (.osl 21 (.int .i32)) a2 none]=>((qpX a0 a1 a2),.tup [(.tup []),.bad,.bad,(.pbox (.osl 21 (.int .i32)) (z118 a0 a1 a2) none)])
 | _=>nB
def s_z185:Sp
 | [de a0 _]=>(true,(dm (z185 a0) none))
 | _=>nB
def s_z218:Sp
 | [dm a0 _]=>(true,(de (z218 a0) none))
 | _=>nB
def s_z237:Sp
 | [dm a0 _]=>(true,(dh (z237 a0) none))
 | _=>nB
def s_z238:Sp
 | [dm a0 _,dm a1 _]=>(true,(dh (z238 a0 a1) none))
 | _=>nB
def s_z217:Sp
 | [db a0 _]=>(qiD a0,(de (z217 a0) none))
 | _=>nB
def s_z178:Sp
 | [db a0 _]=>(qpU a0,(.tup [(di ((z178 a0).1) none),(de ((z178 a0).2.1) none),(de ((z178 a0).2.2) none)]))
 | _=>nB
def s_z117:Sp
 | [db a0 _,.fn 118 [.pbox (.osl 21 (.int .i32)) a1 none]]=>((qbU a0 a1),.tup [(.tup []),.bad,(.pbox (.osl 21 (.int .i32)) (qud a0 a1) none)])
 | _=>nB
def s_z58:Sp
 | [db a0 _]=>(qzK a0,(.dat (.sl (.int .i32)) (z58 a0) none))
 | _=>nB
def s_z29:Sp
 | [de a0 _,db a1 _]=>(qlr a0 a1,(.dat (.sl (.int .i32)) (z29 a0 a1) none))
 | _=>nB
def s_z12:Sp
 | [de a0 _,de a1 _,db a2 _]=>(qok a0 a1 a2,(.dat (.sl (.int .i32)) (z12 a0 a1 a2) none))
 | _=>nB
def s_z78:Sp
 | [dm a0 _]=>(true,(dh (z78 a0) none))
 | _=>nB
def s_z143:Sp
 | [db a0 _,db a1 _]=>(qhq a0 a1,(de (z143 a0 a1) none))
 | _=>nB
def s_z192:Sp
 | [db a0 _]=>(qEm a0,(de (z192 a0) none))
 | _=>nB
def s_z193:Sp
 | [db a0 _,dm a1 _]=>(true,(de (z193 a0 a1) none))
 | _=>nB
def s_z139:Sp
 | [db a0 _,db a1 _]=>(qeC a0 a1,(de (z139 a0 a1) none))
 | _=>nB
def s_z140:Sp
 | [dm a0 _,.pbox (.leaf (.sl .byte)) a1 none]=>((qiF a0 a1),.tup [(de ((z140 a0 a1).1) none),.bad,(.pbox (.leaf (.sl .byte)) ((z140 a0 a1).2) none)])
 | _=>nB
def s_z79:Sp
 | [db a0 _]=>(qBr a0,(de (z79 a0) none))
 | _=>nB
def s_z82:Sp
 | [db a0 _,db a1 _]=>(qip a0 a1,(.tup [(db ((z82 a0 a1).1) none),(db ((z82 a0 a1).2.1) none),(dh ((z82 a0 a1).2.2) none)]))
 | _=>nB
def s_z153:Sp
 | [db a0 _]=>(qdM a0,(db (z153 a0) (some (0,5))))
 | _=>nB
def s_z142:Sp
 | [db a0 _]=>(qqf a0,(.dat (.sl (.sl .byte)) (z142 a0) (some (2,24))))
 | _=>nB
def s_z81:Sp
 | [db a0 _]=>(qBs a0,(de (z81 a0) none))
 | _=>nB
def s_z37:Sp
 | [db a0 _,de a1 _]=>(qjU a0 a1,(de (z37 a0 a1) none))
 | _=>nB
def s_z60:Sp
 | [db a0 _]=>(qBu a0,(.tup [(db ((z60 a0).1) none),(de ((z60 a0).2) none)]))
 | _=>nB
def s_z121:Sp
 | [.pbox (.ppair (.osl 5 .byte) (.ppair (.leaf (.int .i64)) (.leaf .unit))) a0 none,dh a1 _]=>((qeG a0 a1),.tup [(.tup []),(.pbox (.ppair (.osl 5 .byte) (.ppair (.leaf (.int .i64)) (.leaf .unit))) (z121 a0 a1) none),.bad])
 | _=>nB
def s_z119:Sp
 | [.pbox (.ppair (.osl 5 .byte) (.ppair (.leaf (.int .i64)) (.leaf .unit))) a0 none,db a1 _]=>((qiH a0 a1),.tup [(.tup []),(.pbox (.ppair (.osl 5 .byte) (.ppair (.leaf (.int .i64)) (.leaf .unit))) (z119 a0 a1) none),.bad])
 | _=>nB
def s_z120:Sp
 | [db a0 _,de a1 _]=>(qhA a0 a1,(de (z120 a0 a1) none))
 | _=>nB
def s_z239:Sp
 | [de a0 _]=>(qdJ a0,(dm (z239 a0) none))
 | _=>nB
def s_z219:Sp
 | [dm a0 _]=>(true,(db (z219 a0) (some (2,5))))
 | _=>nB
def s_z179:Sp
 | [db a0 _,dm a1 _,dm a2 _]=>(qpL a0 a1 a2,(db (z179 a0 a1 a2) (some (6,5))))
 | _=>nB
def s_z122:Sp
 | [dm a0 _,dh a1 _]=>(true,(db (z122 a0 a1) (some (4,5))))
 | _=>nB
def s_z62:Sp
 | [db a0 _]=>(qBJ a0,(db (z62 a0) none))
 | _=>nB
def s_z61:Sp
 | [db a0 _]=>(qBv a0,(.tup [(db ((z61 a0).1) none),(de ((z61 a0).2) none)]))
 | _=>nB
def s_z222:Sp
 | [de a0 _]=>(true,(dm (z222 a0) none))
 | _=>nB
def s_z182:Sp
 | [db a0 _]=>(qEl a0,(db (z182 a0) (some (2,5))))
 | _=>nB
def s_z123:Sp
 | [db a0 _]=>(quc a0,(db (z123 a0) none))
 | _=>nB
def s_z64:Sp
 | [db a0 _]=>(qrZ a0,(db (z64 a0) (some (2,5))))
 | _=>nB
def s_z63:Sp
 | [db a0 _]=>(qBw a0,(.tup [(db ((z63 a0).1) none),(de ((z63 a0).2) none)]))
 | _=>nB
def s_z30:Sp
 | [de a0 _]=>(true,z30 a0)
 | _=>nB
def s_z65:Sp
 | [de a0 _]=>(true,(de (z65 a0) none))
 | _=>nB
def s_z158:Sp
 | [di a0 _]=>(true,(dh (z158 a0) none))
 | _=>nB
def s_z127:Sp
 | [di a0 _]=>(true,(.tup [(dm ((z127 a0).1) none),(dh ((z127 a0).2) none)]))
 | _=>nB
def s_z159:Sp
 | [di a0 _]=>(true,(dh (z159 a0) none))
 | _=>nB
def s_z186:Sp
 | [.dat (.sl (.int .i32)) a0 _,di a1 _]=>(qpM a0 a1,(de (z186 a0 a1) none))
 | _=>nB
def s_z129:Sp
 | [di a0 _]=>(true,(.tup [(dm ((z129 a0).1) none),(dh ((z129 a0).2) none)]))
 | _=>nB
def s_z160:Sp
 | [di a0 _]=>(true,(dh (z160 a0) none))
 | _=>nB
def s_z211:Sp
 | [di a0 _]=>(true,(dh (z211 a0) none))
 | _=>nB
def s_z161:Sp
 | [di a0 _]=>(true,(dh (z161 a0) none))
 | _=>nB
def s_z105:Sp
 | [de a0 _,di a1 _]=>(true,(dh (z105 a0 a1) none))
 | _=>nB
def s_z124:Sp
 | [de a0 _,.dat (.sl (.int .i32)) a1 _]=>(qpT a0 a1,(de (z124 a0 a1) none))
 | _=>nB
def s_z66:Sp
 | [de a0 _,.dat (.sl (.int .i32)) a1 _]=>(qzJ a0 a1,(dh (z66 a0 a1) none))
 | _=>nB
def s_z224:Sp
 | [di a0 _]=>(true,(dh (z224 a0) none))
 | _=>nB
def s_z223:Sp
 | [.dat (.sl (.int .i32)) a0 _,.fn 224 []]=>(qpN a0,(de (z223 a0) none))
 | _=>nB
def s_z183:Sp
 | [.dat (.sl (.int .i32)) a0 _]=>(qpO a0,(de (z183 a0) none))
 | _=>nB
def s_z125:Sp
 | [.dat (.sl (.int .i32)) a0 _]=>(qpP a0,(dh (z125 a0) none))
 | _=>nB
def s_z184:Sp
 | [di a0 _]=>(true,(de (z184 a0) none))
 | _=>nB
def s_z126:Sp
 | [db a0 _,di a1 _]=>(qpQ a0 a1,(.tup [(db ((z126 a0 a1).1) none),(de ((z126 a0 a1).2) none)]))
 | _=>nB
def s_z67:Sp
 | [.dat (.sl (.int .i32)) a0 _]=>(qzI a0,(.tup [(db ((z67 a0).1) none),(de ((z67 a0).2) none)]))
 | _=>nB
def s_z68:Sp
 | [.dat (.sl (.int .i32)) a0 _]=>(qzG a0,(.tup [(db ((z68 a0).1) none),(de ((z68 a0).2) none)]))
 | _=>nB
def s_z128:Sp
 | [.dat (.sl (.int .i32)) a0 _]=>(qpR a0,(de (z128 a0) none))
 | _=>nB
def s_z69:Sp
 | [.dat (.sl (.int .i32)) a0 _]=>(qzH a0,(.tup [(db ((z69 a0).1) none),(de ((z69 a0).2) none)]))
 | _=>nB
def s_z130:Sp
 | [.dat (.sl (.int .i32)) a0 _]=>(qpS a0,(de (z130 a0) none))
 | _=>nB
def s_z70:Sp
 | [.dat (.sl (.int .i32)) a0 _]=>(qzF a0,(.tup [(db ((z70 a0).1) none),(de ((z70 a0).2) none)]))
 | _=>nB
def s_z31:Sp
 | [de a0 _,.dat (.sl (.int .i32)) a1 _]=>(qrN a0 a1,(.tup [(db ((z31 a0 a1).1) none),(de ((z31 a0 a1).2) none)]))
 | _=>nB
def s_z13:Sp
 | [de a0 _,de a1 _,.dat (.sl (.int .i32)) a2 _]=>(qwt a0 a1 a2,(.tup [(db ((z13 a0 a1 a2).1) none),(de ((z13 a0 a1 a2).2) none)]))
 | _=>nB
def s_z163:Sp
 | [.dat (.int .u64) a0 _]=>(qJI a0,(de (z163 a0) none))
 | _=>nB
def s_z11:Sp
 | [.dat (.sl (.int .i32)) a0 _,.dat (.sl (.int .i32)) a1 _]=>(qrP a0 a1,(dh (z11 a0 a1) none))
 | _=>nB
def s_z7:Sp
 | []=>(true,(dg z7))
 | _=>nB
def s_z16:Sp
 | [.dat (.sl (.int .i32)) a0 _]=>(qBt a0,(.dat (.sl (.int .i32)) (z16 a0) (some (2,21))))
 | _=>nB
def s_z77:Sp
 | [di a0 _]=>(true,(dh (z77 a0) none))
 | _=>nB
def s_z36:Sp
 | [di a0 _]=>(true,(dh (z36 a0) none))
 | _=>nB
def s_z18:Sp
 | [.dat (.sl (.int .i32)) a0 _]=>(qEb a0,(de (z18 a0) none))
 | _=>nB
def s_z200:Sp
 | [db a0 _,df a1 _]=>(qlv a0 a1,(dh (z200 a0 a1) none))
 | _=>nB
def s_z146:Sp
 | [db a0 _]=>(qlq a0,(dh (z146 a0) none))
 | _=>nB
def s_z83:Sp
 | [db a0 _]=>(qwL a0,(dh (z83 a0) none))
 | _=>nB
def s_z38:Sp
 | [db a0 _]=>(qBK a0,(de (z38 a0) none))
 | _=>nB
def s_z147:Sp
 | [db a0 _]=>(qqe a0,(.tup [(db ((z147 a0).1) none),(de ((z147 a0).2) none)]))
 | _=>nB
def s_z231:Sp
 | [db a0 _,db a1 _]=>(qhp a0 a1,(db (z231 a0 a1) none))
 | _=>nB
def s_z201:Sp
 | [db a0 _]=>(qpV a0,(db (z201 a0) none))
 | _=>nB
def s_z148:Sp
 | [db a0 _]=>(qpW a0,(.tup [(db ((z148 a0).1) none),(de ((z148 a0).2) none)]))
 | _=>nB
def s_z84:Sp
 | [db a0 _]=>(qBp a0,(.tup [(db ((z84 a0).1) none),(de ((z84 a0).2) none)]))
 | _=>nB
def s_z39:Sp
 | [db a0 _]=>(qBq a0,(de (z39 a0) none))
 | _=>nB
def s_z19:Sp
 | [de a0 _,db a1 _]=>(qwu a0 a1,(de (z19 a0 a1) none))
 | _=>nB
def s_z5:Sp
 | [.dat (.pair (.int .i64) (.pair (.int .i64) .unit)) a0 _,.dat (.sl (.int .i32)) a1 _,db a2 _]=>(z5_ok a0 a1 a2,(dh (z5 a0 a1 a2) none))
 | _=>nB
theorem qlx:gG 164 s_z164:=fun w S hg vals avs r h hS ha=>by
 unfold s_z164 at h;split at h
 ·simp only[yb,true_and] at h;subst h;exact qsa func164 (by kernel_rfl) (by kernel_rfl) (by kernel_rfl) (by kernel_rfl) hS ha
 ·cases h
def s_z170 (m0:Int):Sp
 | [df a0 _,df a1 _]=>(qlt m0 a0 a1,(de (z170 a0 a1) none))
 | _=>nB
theorem quq (m0:Int):qef (Gm m0) prog 170 (s_z170 m0):=fun w S hg vals avs r h hS ha=>by
 unfold s_z170 at h;split at h
 ·obtain⟨hp,rfl⟩:=yj h;simp only[qlt,yf,ym] at hp;have hm:w.cell? ⟨0,0,none⟩=some (.int .i64 m0):=by
   cases hg.2 0 (.int .i64) m0 rfl with
   | adr _ _ ad cs h1 h2 =>
    have e:cs=[.int .i64 m0]:=h1;subst e;exact((h2.2 (by simp)).2 0 _ rfl).2
  exact qsb func170 (by kernel_rfl) (by kernel_rfl) (by kernel_rfl) (by kernel_rfl) (g:=0) (by kernel_rfl) hm hS ha hp.1.1 hp.1.2 hp.2
 ·cases h
theorem qur:gG 165 s_z165:=fun w S hg vals avs r h hS ha=>by
 unfold s_z165 at h;split at h
 ·simp only[yb] at h;cases h.1
 ·cases h
theorem qus:gG 169 s_z169:=fun w S hg vals avs r h hS ha=>by
 unfold s_z169 at h;split at h
 ·obtain⟨hp,rfl⟩:=yj h;obtain⟨m,hm⟩:=hg;exact qsc hm.1.1 hS ha (by simpa [qlu] using hp)
 ·cases h
theorem qly:gG 143 s_z143:=fun w S hg vals avs r h hS ha=>by
 unfold s_z143 at h;split at h
 ·obtain⟨hp,rfl⟩:=yj h;unfold qhq at hp;simp only[yf,ym] at hp;obtain⟨m,hm⟩:=hg;have hc:w.cell? ⟨0,0,none⟩=some (.int .i64 m):=by
   cases hm.2 0 (.int .i64) m rfl with
   | adr _ _ ad cs h1 h2 =>
    have e:cs=[.int .i64 m]:=h1;subst e;exact((h2.2 (by simp)).2 0 _ rfl).2
  exact qsd hc hS ha (qd hp.1) (qd hp.2.1) hp.2.2
 ·cases h
theorem qhr:gG 153 s_z153:=fun w S hg vals avs r h hS ha=>by
 unfold s_z153 at h;split at h
 ·obtain⟨hp,rfl⟩:=yj h;exact qse hS ha (qd hp)
 ·cases h
theorem qut:gG 193 s_z193:=fun w S hg vals avs r h hS ha=>by
 unfold s_z193 at h;split at h
 ·simp only[yb,true_and] at h;subst h;exact qsf hS ha
 ·cases h
theorem quu:gG 192 s_z192:=fun w S hg vals avs r h hS ha=>by
 unfold s_z192 at h;split at h
 ·simp only[yb] at h;cases h.1
 ·cases h
theorem quv:gG 141 s_z141:=fun w S hg vals avs r h hS ha=>by
 unfold s_z141 at h;split at h
 ·simp only[yb,true_and] at h;subst h;exact qsg hS ha
 ·cases h
theorem quw:gG 210 s_z210:=fun w S hg vals avs r h hS ha=>by
 unfold s_z210 at h;split at h
 ·simp only[yb] at h;cases h.1
 ·cases h
theorem qux:gG 163 s_z163:=fun w S hg vals avs r h hS ha=>by
 unfold s_z163 at h;split at h
 ·obtain⟨hp,rfl⟩:=yj h;have hp':=of_decide_eq_true hp;obtain⟨m,hm⟩:=hg;exact qsh hm.1.2 hS ha hp'.1 hp'.2
 ·cases h
theorem qzZ:gG 80 s_z80:=sY [(141,s_z141)] 8 (some [4]) (fC quv fN) func80 fun avs r h=>by
 unfold s_z80 at h;split at h <;> cases h
 exact eX (qIm _ _) fun n=>by kernel_rfl
theorem quy:gG 166 s_z166:=sY [] 5 (some [2]) fN func166 fun avs r h=>by
 unfold s_z166 at h;split at h <;> cases h
 exact eX (qDp _) fun n=>by kernel_rfl
def qnA:EnvP:=eQ [] 21 (some [2,3]) (fun x=>if x=2 then some [0,2,4] else none) (fun x=>if x=0 then some [2] else if x=1 then some [0,2,4] else none) nP
def qAa:Code:=cO f167
def qJT:Array ResultVar:=f167.results
noncomputable def qnB (K:KT):=fun as2 ok3=>K .ret (frOf [(2,(.box (.arr 256 .bool) as2)),(3,dg ok3)])
noncomputable def qnC (K:KT):=fun as2=>K (.exit 0) (frOf [(2,(.box (.arr 256 .bool) as2))])
def qGH (n:Nat):KT:=qk 0 (qnA.cutb 0) (kSeq (evCP qnA (evLP qnA n) (sub qAa [1,1])) (kFnP qnA qJT))
def qGI (chars0:LU) (as2:List Bool) (i4:Int):Fr:=frOf [(0,(df chars0 none)),(2,(.box (.arr 256 .bool) as2)),(4,dc i4)]
theorem quz (K:KT) (n:Nat):(fun chars0 as2 i4=>evLP qnA n (sub qAa [1,0,1,0,0]) K (qGI chars0 as2 i4))=qfV (qnB K) (qnC K) n:=by
 induction n
 kernel_rfl;rename_i n ih;show _=qdq (qnB K) (qnC K) (qfV (qnB K) (qnC K) n) n;rw[← ih];kernel_rfl
theorem qJU (n:Nat) (chars0:LU) (o0:Lab):evFnP qnA n qAa qJT [df chars0 o0]=qwN n chars0:=by
 unfold qwN;rw[(Eq.trans (by kernel_rfl) (quz (qGH n) n).symm:qfV qhB (qjW n) n=_)];kernel_rfl
theorem qlz:gG 167 s_z167:=sQ (E:=qnA) (c:=qAa) rfl fN func167 fun avs r h=>by
 unfold s_z167 at h;split at h
 ·obtain⟨hp,rfl⟩:=yj h;exact eX (qCp _ hp) fun n=>qJU n _ _
 ·cases h
theorem qlA:gG 168 s_z168:=sY [] 10 (some [4]) fN func168 fun avs r h=>by
 unfold s_z168 at h;split at h <;> cases h
 exact eX (qCq _ _) fun n=>by kernel_rfl
def qas (m0:Int):EnvP:=⟨⟨tiOf tis,fnsOf [(164,s_z164),(165,s_z165),(166,s_z166),(167,s_z167),(168,s_z168),(169,s_z169),(170,(s_z170 m0))],cnsOf [],[],129,(fun x=>if x=7 then some [28] else if x=24 then some [7,60,61,62] else if x=32 then some [0,1,12] else if x=48 then some [0,1,11,12,13,121] else none),(fun x=>if x=0 then some [] else if x=1 then some [28] else if x=2 then some [] else if x=3 then some [7,60,61,62] else if x=4 then some [] else if x=5 then some [0,1,11,12] else if x=6 then some [0,1,11,12] else if x=7 then some [0,1,11,12,13,121] else none),some [4]⟩,fun _=>none,glm m0,(fun x=>if x=24 then [7] else []),fun _=>none,fun _=>none,fun _=>none,fun _=>none⟩
def qdX:Code:=cO f109
def qAb:Array ResultVar:=f109.results
def qGJ (m0:Int) (n:Nat):KT:=qk 0 ((qas m0).cutb 0) (kSeq (evCP (qas m0) (evLP (qas m0) n) (sub qdX [1,1,0,1,0,1,0,1,0,1])) (kSeq (evCP (qas m0) (evLP (qas m0) n) (sub qdX [1,1,0,1,0,1,1])) (kSeq (evCP (qas m0) (evLP (qas m0) n) (sub qdX [1,1,1])) (kFnP (qas m0) qAb))))
def qGK (m0:Int) (n:Nat) (K:KT):KT:=qk 6 ((qas m0).cutb 6) (qk 5 ((qas m0).cutb 5) (kSeq (evCP (qas m0) (evLP (qas m0) n) (sub qdX [1,1,1,1,1,1,0,1,0,0,1,1])) (kSeq (fun K fr=>evLP (qas m0) n (sub qdX [1,1,1,1,1,1,0,1,0,0]) K (cutFP ((qas m0).cuts 32) fr)) K)))
def qGL (m0:Int) (n:Nat):KT:=qk 2 ((qas m0).cutb 2) (kSeq (evCP (qas m0) (evLP (qas m0) n) (sub qdX [1,1,1,1,0,1,0,1,1,0,1])) (kSeq (evCP (qas m0) (evLP (qas m0) n) (sub qdX [1,1,1,1,1])) (kFnP (qas m0) qAb)))
def qGM (m0:Int) (n:Nat):KT:=qk 4 ((qas m0).cutb 4) (kSeq (evCP (qas m0) (evLP (qas m0) n) (sub qdX [1,1,1,1,1,1,1])) (kFnP (qas m0) qAb))
def qGN (s0:LU) (chars1:LU) (width11:Int) (i12:Int) (r13:Int) (s121:LU) (s121p:Nat):Fr:=frOf [(0,da s0),(1,(df chars1 none)),(11,dc width11),(12,dc i12),(13,(di r13 none)),(121,(.itr s121 s121p))]
def qGO (as7:List Bool) (s60:LU) (s61:Int) (s62:Int):Fr:=frOf [(7,(.adr (.arr 256 .bool) as7)),(60,da s60),(61,dc s61),(62,dc s62)]
def qnD (s0:LU) (chars1:LU) (width11:Int) (i12:Int):Fr:=frOf [(0,da s0),(1,(df chars1 none)),(11,dc width11),(12,dc i12)]
def quA (s0:LU) (chars1:LU) (i12:Int):Fr:=frOf [(0,da s0),(1,(df chars1 none)),(12,dc i12)]
theorem quB (m0:Int) (K:KT) (n:Nat):(fun s28 s28p=>evLP (qas m0) n (sub qdX [1,1,0,1,0,1,0,1,0,0,1,0,0]) K (frOf [(28,(.itr s28 s28p))]))=(qfW m0) (fun s4=>K .ret (frOf [(4,dc s4)])) (K (.exit 0) (frOf [])) n:=by
 induction n
 kernel_rfl;rename_i n ih;show _=(qdr m0) (fun s4=>K .ret (frOf [(4,dc s4)])) (K (.exit 0) (frOf [])) ((qfW m0) (fun s4=>K .ret (frOf [(4,dc s4)])) (K (.exit 0) (frOf [])) n) n;rw[← ih];kernel_rfl
theorem qrQ (m0:Int) (K:KT) (n:Nat):(fun as7 s60 s61 s62=>evLP (qas m0) n (sub qdX [1,1,1,1,0,1,0,1,1,0,0,1,0,0]) K (qGO as7 s60 s61 s62))=(qcP m0) (fun s4=>K .ret (frOf [(4,dc s4)])) (K (.exit 2) (frOf [])) n:=by
 induction n
 kernel_rfl;rename_i n ih;show _=(qbW m0) (fun s4=>K .ret (frOf [(4,dc s4)])) (K (.exit 2) (frOf [])) ((qcP m0) (fun s4=>K .ret (frOf [(4,dc s4)])) (K (.exit 2) (frOf [])) n) n;rw[← ih];kernel_rfl
theorem qrR (m0:Int) (K:KT) (n:Nat):(fun s0 chars1 width11 i12 r13 s121 s121p=>evLP (qas m0) n (sub qdX [1,1,1,1,1,1,0,1,0,0,1,0,0,1,1,1,1,1,0,0]) K (qGN s0 chars1 width11 i12 r13 s121 s121p))=(qbP m0) (fun s4=>K .ret (frOf [(4,dc s4)])) (fun s0 chars1 width11 i12=>K (.exit 6) (qnD s0 chars1 width11 i12)) n:=by
 induction n
 kernel_rfl;rename_i n ih;show _=(qbX m0) (fun s4=>K .ret (frOf [(4,dc s4)])) (fun s0 chars1 width11 i12=>K (.exit 6) (qnD s0 chars1 width11 i12)) ((qbP m0) (fun s4=>K .ret (frOf [(4,dc s4)])) (fun s0 chars1 width11 i12=>K (.exit 6) (qnD s0 chars1 width11 i12)) n) n;rw[← ih];kernel_rfl
theorem qrS (m0:Int) (K:KT) (n:Nat):(fun s0 chars1 i12=>evLP (qas m0) n (sub qdX [1,1,1,1,1,1,0,1,0,0]) K (quA s0 chars1 i12))=(qbQ m0) (fun s4=>K .ret (frOf [(4,dc s4)])) (K (.exit 4) (frOf [])) n:=by
 induction n
 kernel_rfl;rename_i n ih;funext s0 chars1 i12;show _=(qcQ m0) (fun s4=>K .ret (frOf [(4,dc s4)])) (K (.exit 4) (frOf [])) ((qbQ m0) (fun s4=>K .ret (frOf [(4,dc s4)])) (K (.exit 4) (frOf [])) n) n s0 chars1 i12;rw[← ih];unfold qcQ qp;rw[(Eq.trans (by kernel_rfl) ((qrR m0) (qGK m0 n K) n).symm:(qbP m0) (fun s4=>K .ret (frOf [(4,dc s4)])) ((qeH m0) (fun s4=>K .ret (frOf [(4,dc s4)])) (K (.exit 4) (frOf [])) (fun s0 chars1 i12=>evLP (qas m0) n (sub qdX [1,1,1,1,1,1,0,1,0,0]) K (quA s0 chars1 i12)) n) n=_)];kernel_rfl
theorem qJV (m0:Int) (n:Nat) (s0:LU) (o0:Lab) (chars1:LU) (o1:Lab):evFnP (qas m0) n qdX qAb [db s0 o0,df chars1 o1]=(qqp m0) n s0 chars1:=by
 unfold qqp qcR;rw[(Eq.trans (by kernel_rfl) ((quB m0) (qGJ m0 n) n).symm:(qfW m0) qEt ((qqo m0) n) n=_)];rw[(Eq.trans (by kernel_rfl) ((qrQ m0) (qGL m0 n) n).symm:(qcP m0) qEt ((qhC m0) n) n=_)];rw[(Eq.trans (by kernel_rfl) ((qrS m0) (qGM m0 n) n).symm:(qbQ m0) qEt ((qeI m0) n) n=_)];kernel_rfl
theorem qrT (m0:Int):qef (Gm m0) prog 109 s_z109:=by
 refine qcC (qww m0) (E:=qas m0) (fn:=f109) (c:=qdX) (qo rfl qeD) (fun w S hg=>⟨⟨(qq (qlx w S (G_of m0 hg)) (qq (qur w S (G_of m0 hg)) (qq (quy w S (G_of m0 hg)) (qq (qlz w S (G_of m0 hg)) (qq (qlA w S (G_of m0 hg)) (qq (qus w S (G_of m0 hg)) (qq (quq m0 w S hg) qQ))))))),fun f sp h=>qP f sp h w S⟩,hg.2,(fun _ _ h=>by cases h),(fun _ _ h=>by cases h),(fun _ _ h=>by cases h),(fun _ _ _ h=>by cases h)⟩) follows func109 (by kernel_rfl) (by kernel_rfl) (by kernel_rfl) ?_;intro avs r h;unfold s_z109 at h;split at h
 ·obtain⟨hp,rfl⟩:=yj h;exact eX (qDr m0 _ _ hp) fun n=>qJV m0 n _ _ _ _
 ·cases h
theorem qlB:gG 109 s_z109:=fun w S hg=>by obtain⟨m,h⟩:=G_to hg;exact qrT m w S h
theorem qlC:gG 194 s_z194:=sY [] 10 (some [4]) fN func194 fun avs r h=>by
 unfold s_z194 at h;split at h <;> cases h
 exact eX (qCu _ _) fun n=>by kernel_rfl
theorem quC:gG 171 s_z171:=sY [(194,s_z194)] 18 (some [4]) (fC qlC fN) func171 fun avs r h=>by
 unfold s_z171 at h;split at h <;> cases h
 exact eX (qDE _ _) fun n=>by kernel_rfl
theorem quD:gG 110 s_z110:=sZ [(171,s_z171)] 12 (some [2]) nC (fun x=>if x=0 then some [] else none) nP (fC quC fN) func110 fun avs r h=>by
 unfold s_z110 at h;split at h <;> cases h
 exact eX (qDI _) fun n=>by kernel_rfl
end
end
end Go.Av
