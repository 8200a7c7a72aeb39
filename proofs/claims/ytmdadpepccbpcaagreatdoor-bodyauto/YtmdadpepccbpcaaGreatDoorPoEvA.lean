import Derived.Test.YtmdadpepccbpcaaGreatDoorPoQ
import Derived.Test.YtmdadpepccbpcaaGreatDoorPoD
import Derived.Test.YtmdadpepccbpcaaGreatDoorAvE
import Derived.Test.YtmdadpepccbpcaaGreatDoorProg
import Derived.KernelRfl
namespace Go.Av
set_option linter.unusedSimpArgs false
set_option linter.unusedVariables false
section
noncomputable section
open Go.Proofs Go.Proofs.Tryz
set_option maxRecDepth 100000
set_option linter.unusedVariables false
variable {E:EnvP} {f:FuncId} {fn:Func} {c:Code} {spec:List AV→Bool×AV}
def tis:List (TypeId×TI):=[(2,⟨some (.int .i64),8,0⟩),
 (3,⟨some (.int .i64),8,0⟩),
 (4,⟨some .bool,1,0⟩),
 (5,⟨some .byte,1,0⟩),
 (6,⟨some .byte,1,0⟩),
 (7,⟨some (.pair (.int .i64) (.pair (.int .i64) (.pair .bool (.pair .byte .unit)))),24,0⟩),
 (8,⟨some (.pair (.int .i64) (.pair (.int .i64) (.pair .bool (.pair .byte .unit)))),24,0⟩),
 (9,⟨some .str,16,0⟩),
 (10,⟨some .str,16,0⟩),
 (11,⟨some .str,16,0⟩),
 (12,⟨some (.int .u64),8,0⟩),
 (13,⟨some (.pair .str (.pair (.int .u64) .unit)),24,0⟩),
 (14,⟨some (.pair .str (.pair (.int .u64) .unit)),24,0⟩),
 (21,⟨some (.int .i32),4,0⟩),
 (22,⟨some (.sl (.int .i32)),24,21⟩),
 (24,⟨some (.sl .byte),24,5⟩),
 (25,⟨some (.int .i64),8,0⟩),
 (34,⟨some (.pair (.int .i64) (.pair (.int .i64) .unit)),16,0⟩),
 (35,⟨some (.pair (.int .i64) (.pair (.int .i64) .unit)),16,0⟩),
 (46,⟨some (.arr 2 (.sl .byte)),48,24⟩),
 (81,⟨some (.sl (.sl .byte)),24,24⟩),
 (90,⟨some (.sl (.int .i64)),24,3⟩),
 (101,⟨some (.sl .str),24,9⟩),
 (107,⟨some (.int .u64),8,0⟩),
 (117,⟨some (.pair (.sl .byte) (.pair (.int .i64) .unit)),32,0⟩),
 (118,⟨some (.pair (.sl .byte) (.pair (.int .i64) .unit)),32,0⟩),
 (137,⟨some (.int .u32),4,0⟩),
 (139,⟨some (.int .u64),8,0⟩),
 (143,⟨some (.arr 256 .bool),256,4⟩),
 (144,⟨some (.arr 256 .bool),256,4⟩),
 (151,⟨some (.pair .byte (.pair (.int .i32) .unit)),8,0⟩),
 (152,⟨some (.pair .byte (.pair (.int .i32) .unit)),8,0⟩),
 (153,⟨some (.arr 8 (.pair .byte (.pair (.int .i32) .unit))),64,152⟩),
 (167,⟨some (.arr 32 .byte),32,5⟩),
 (168,⟨some (.arr 64 .byte),64,5⟩),
 (169,⟨some (.arr 4 .byte),4,5⟩),
 (170,⟨some (.arr 32 (.int .i32)),128,21⟩),
 (184,⟨some (.arr 256 .byte),256,5⟩),
 (185,⟨some (.pair .byte (.pair .byte .unit)),2,0⟩),
 (186,⟨some (.pair .byte (.pair .byte .unit)),2,0⟩),
 (187,⟨some (.arr 16 (.pair .byte (.pair .byte .unit))),32,186⟩),
 (199,⟨some .byte,1,0⟩),
 (200,⟨some .byte,1,0⟩),
 (203,⟨some (.int .i32),4,0⟩),
 (204,⟨some (.int .i32),4,0⟩)]
theorem qoh:(tis.all fun p=>tyB prog (tiOf tis) p.1)=true:=by kernel_rfl
theorem follows:prog.follows .mixedOrders=true:=by kernel_rfl
abbrev nB:Bool×AV:=(false,.bad)
abbrev Sp:=List AV→Bool×AV
abbrev KT:=Ex→Fr→OA
abbrev FnL:=List (FuncId×(List AV→Bool×AV))
abbrev CutL:=Nat→Option (List Nat)
def eQ (l:FnL) (nt:Nat) (r:Option (List Nat)) (a b:CutL) (p:Nat→Option PSh):EnvP:=⟨⟨tiOf tis,fnsOf l,cnsOf [],[],nt,a,b,r⟩,p,fun _=>none,fun _=>[],fun _=>none,fun _=>none,fun _=>none,fun _=>none⟩
def cO (f:Func):Code:=f.body.getD .skip
def nC:CutL:=fun _=>none
def nP:Nat→Option PSh:=fun _=>none
theorem sQ {l:FnL} {nt:Nat} {r:Option (List Nat)} {a b:CutL} {p:Nat→Option PSh} (hE:E=eQ l nt r a b p) (hl:∀ w S,G w S→∀ f,qap prog f (fnsOf l f) w S)
 (hf:prog.funcs[f]? = some fn) (hspec:∀ avs r',spec avs=(true,r')→∃ n v,evFnP E n c fn.results avs=some v∧(v=r'∨v.strip=r')) (hb:fn.body=some c:=by kernel_rfl) (hnt:fn.ntmps=nt:=by kernel_rfl) (hname:(fn.name == "runtime.NumGoroutine")=false:=by kernel_rfl):qfk G prog f spec:=by
 subst hE;exact qds G_stays (E:=eQ l nt r a b p) (qT rfl qoh) (fun w S hg=>⟨⟨hl w S hg,fun f sp h=>qaD f sp h w S⟩,qaO w S hg,(fun _ _ h=>by cases h),(fun f sp h=>qbt f sp h),(fun f it h=>qbu f it h),(fun t kt vt h=>qaR t kt vt h)⟩) follows hf hb hnt hname hspec
theorem sZ (l:FnL) (nt:Nat) (r:Option (List Nat)) (a b:CutL) (p:Nat→Option PSh) (hl:∀ w S,G w S→∀ f,qap prog f (fnsOf l f) w S)
 (hf:prog.funcs[f]? = some fn) (hspec:∀ avs r',spec avs=(true,r')→∃ n v,evFnP (eQ l nt r a b p) n (cO fn) fn.results avs=some v∧(v=r'∨v.strip=r')) (hb:fn.body=some (cO fn):=by kernel_rfl) (hnt:fn.ntmps=nt:=by kernel_rfl) (hname:(fn.name == "runtime.NumGoroutine")=false:=by kernel_rfl):qfk G prog f spec :=
 sQ (E:=eQ l nt r a b p) (c:=cO fn) rfl hl hf hspec hb hnt hname
theorem eX {rs:Array ResultVar} {av:List AV} {r:AV} {g:Nat→OA} (hm:∃ n,g n=some r) (hv:∀ n,evFnP E n c rs av=g n:=by intro _;kernel_rfl):∃ n v,evFnP E n c rs av=some v∧(v=r∨v.strip=r):=by
 obtain⟨n,hn⟩:=hm;exact⟨n,_,(hv n).trans hn,.inl rfl⟩
theorem fC {sp:List AV→Bool×AV} {l:FnL} (h:qfk G prog f sp) (hl:∀ w S,G w S→∀ g,qap prog g (fnsOf l g) w S):∀ w S,G w S→∀ g,qap prog g (fnsOf ((f,sp) :: l) g) w S:=fun w S hg=>qF (h w S hg) (hl w S hg)
theorem fN:∀ w S,G w S→∀ g,qap prog g (fnsOf [] g) w S:=fun _ _ _=>qaE
theorem sG (hF:∀ w S,G w S→EnvOk prog E w S) (hf:prog.funcs[f]? = some fn) (hspec:∀ avs r',spec avs=(true,r')→∃ n v,evFnP E n (cO fn) fn.results avs=some v∧(v=r'∨v.strip=r')) (hT:E.ti=tiOf tis:=by kernel_rfl) (hb:fn.body=some (cO fn):=by kernel_rfl) (hnt:fn.ntmps=E.nt:=by kernel_rfl) (hname:(fn.name == "runtime.NumGoroutine")=false:=by kernel_rfl):qfk G prog f spec :=
 qds G_stays (qT hT qoh) hF follows hf hb hnt hname hspec
theorem sM (hF:∀ w S,G w S→EnvOk prog E w S) (hf:prog.funcs[f]? = some fn) (hspec:∀ avs r,spec avs=(true,r)→∃ n,evFnM E n (cO fn) fn.results avs=some r) (hT:E.ti=tiOf tis:=by kernel_rfl) (hb:fn.body=some (cO fn):=by kernel_rfl) (hnt:fn.ntmps=E.nt:=by kernel_rfl) (hname:(fn.name == "runtime.NumGoroutine")=false:=by kernel_rfl):qkb G prog f spec :=
 qpS G_stays (qT hT qoh) hF follows hf hb hnt hname hspec
theorem sY (l:FnL) (nt:Nat) (r:Option (List Nat)) (hl:∀ w S,G w S→∀ f,qap prog f (fnsOf l f) w S)
 (hf:prog.funcs[f]? = some fn) (hspec:∀ avs r',spec avs=(true,r')→∃ n v,evFnP (eQ l nt r nC nC nP) n (cO fn) fn.results avs=some v∧(v=r'∨v.strip=r')) (hb:fn.body=some (cO fn):=by kernel_rfl) (hnt:fn.ntmps=nt:=by kernel_rfl) (hname:(fn.name == "runtime.NumGoroutine")=false:=by kernel_rfl):qfk G prog f spec :=
 sZ l nt r nC nC nP hl hf hspec hb hnt hname
abbrev gG (f:FuncId) (s:List AV→Bool×AV):=qfk G prog f s
def s_z164:Sp
 | [df a0 _,dp a1 _]=>(true,(de (z164 a0 a1) none))
 | _=>nB
def s_z141:Sp
 | [db a0 _,dp a1 _]=>(true,(de (z141 a0 a1) none))
 | _=>nB
def s_z80:Sp
 | [db a0 _,dp a1 _]=>(true,(de (z80 a0 a1) none))
 | _=>nB
def s_z169:Sp
 | [db a0 _]=>(qoe a0,(.tup [(dm ((z169 a0).1) none),(de ((z169 a0).2) none)]))
 | _=>nB
def s_z165:Sp
 | [db a0 _,dm a1 _]=>(qyl a0 a1,(de (z165 a0 a1) none))
 | _=>nB
def s_z166:Sp
 | [de a0 _]=>(true,(dh (z166 a0) none))
 | _=>nB
def s_z167:Sp
 | [df a0 _]=>(qeJ a0,(.tup [(.dat (.arr 256 .bool) ((z167 a0).1) none),(dh ((z167 a0).2) none)]))
 | _=>nB
def s_z168:Sp
 | [.adr (.arr 256 .bool) a0,dp a1 _]=>(true,(dh (z168 a0 a1) none))
 | _=>nB
def s_z109:Sp
 | [db a0 _,df a1 _]=>(qkw a0 a1,(de (z109 a0 a1) none))
 | _=>nB
def s_z194:Sp
 | [db a0 _,db a1 _]=>(true,(dh (z194 a0 a1) none))
 | _=>nB
def s_z171:Sp
 | [db a0 _,db a1 _]=>(true,(dh (z171 a0 a1) none))
 | _=>nB
def s_z110:Sp
 | [db a0 _]=>(true,(de (z110 a0) none))
 | _=>nB
def s_z108:Sp
 | [.abs s V x,.pbox (.leaf (.sl .byte)) b0 none]=>((z108 (fun x a0 a1=>V.spec x [⟨(.sl .byte),a0⟩,⟨(.sl .byte),a1⟩]) x b0).1,.tup [.tup [],.abs s V (z108 (fun x a0 a1=>V.spec x [⟨(.sl .byte),a0⟩,⟨(.sl .byte),a1⟩]) x b0).2.1,.pbox (.leaf (.sl .byte)) ((z108 (fun x a0 a1=>V.spec x [⟨(.sl .byte),a0⟩,⟨(.sl .byte),a1⟩]) x b0).2.2) none])
 | _=>nB
def qKJ:Iter:=⟨[.leaf (.sl .byte)],fun s spec x y=>((z108 (fun x a0 a1=>spec x [⟨(.sl .byte),a0⟩,⟨(.sl .byte),a1⟩]) x y.1).1,(z108 (fun x a0 a1=>spec x [⟨(.sl .byte),a0⟩,⟨(.sl .byte),a1⟩]) x y.1).2.1)⟩
def s_z52:Sp
 | [db a0 _]=>(true,(.abs (qdy [.leaf (.sl .byte)]) (clInv 108 [.leaf (.sl .byte)]) (a0,())))
 | _=>nB
def s_z206:Sp
 | [db a0 _,dp a1 _]=>(qym a0 a1,(db (z206 a0 a1) none))
 | _=>nB
def s_z208:Sp
 | [db a0 _,.adr (.arr 256 .bool) a1]=>(qof a0 a1,(db (z208 a0 a1) none))
 | _=>nB
def s_z210:Sp
 | [db a0 _,df a1 _]=>(qyn a0 a1,(db (z210 a0 a1) none))
 | _=>nB
def s_z172:Sp
 | [db a0 _,df a1 _]=>(qkA a0 a1,(db (z172 a0 a1) none))
 | _=>nB
def s_z215:Sp
 | [db a0 _,db a1 _]=>(qts a0 a1,(dh (z215 a0 a1) none))
 | _=>nB
def s_z173:Sp
 | [db a0 _,db a1 _]=>(qtw a0 a1,(.tup [(db ((z173 a0 a1).1) none),(dh ((z173 a0 a1).2) none)]))
 | _=>nB
def s_z111:Sp
 | [db a0 _]=>(qtQ a0,(.tup [(db ((z111 a0).1) none),(dh ((z111 a0).2) none)]))
 | _=>nB
def s_z228:Sp
 | [dp a0 _]=>(true,(de (z228 a0) none))
 | _=>nB
def s_z236:Sp
 | [df a0 _,dp a1 _]=>(true,(de (z236 a0 a1) none))
 | _=>nB
def s_z216:Sp
 | [df a0 _,dp a1 _]=>(true,(de (z216 a0 a1) none))
 | _=>nB
def s_z229:Sp
 | [df a0 _,dp a1 _]=>(true,(dh (z229 a0 a1) none))
 | _=>nB
def s_z198:Sp
 | [dp a0 _]=>(true,(de (z198 a0) none))
 | _=>nB
def s_z144:Sp
 | [dp a0 _,de a1 _]=>(true,(dh (z144 a0 a1) none))
 | _=>nB
def s_z154:Sp
 | [dp a0 _]=>(true,(dp (z154 a0) none))
 | _=>nB
def s_z230:Sp
 | [dp a0 _]=>(true,(.tup [(de ((z230 a0).1) none),(dh ((z230 a0).2) none)]))
 | _=>nB
def s_z199:Sp
 | [dp a0 _,dp a1 _]=>(true,(.tup [(dp ((z199 a0 a1).1) none),(dh ((z199 a0 a1).2) none)]))
 | _=>nB
def s_z145:Sp
 | [db a0 _,de a1 _,dp a2 _]=>(qtd a0 a1 a2,(.tup [(dp ((z145 a0 a1 a2).1) none),(dh ((z145 a0 a1 a2).2) none)]))
 | _=>nB
def s_z112:Sp
 | [db a0 _]=>(qtR a0,(.tup [(db ((z112 a0).1) none),(de ((z112 a0).2) none)]))
 | _=>nB
def s_z53:Sp
 | [db a0 _]=>(qHG a0,(.tup [(db ((z53 a0).1) none),(dh ((z53 a0).2) none)]))
 | _=>nB
def s_z27:Sp
 | [db a0 _]=>(qHH a0,(db (z27 a0) none))
 | _=>nB
def s_z175:Sp
 | [dp a0 _]=>(true,(.tup [(de ((z175 a0).1) none),(dh ((z175 a0).2) none)]))
 | _=>nB
def s_z174:Sp
 | [.abs s V x,.pbox (.leaf (.sl .byte)) b0 none]=>((z174 (fun x a0 a1=>V.spec x [⟨.byte,a0⟩,⟨(.int .i64),a1⟩]) x b0).1,.tup [.tup [],.abs s V (z174 (fun x a0 a1=>V.spec x [⟨.byte,a0⟩,⟨(.int .i64),a1⟩]) x b0).2.1,.pbox (.leaf (.sl .byte)) ((z174 (fun x a0 a1=>V.spec x [⟨.byte,a0⟩,⟨(.int .i64),a1⟩]) x b0).2.2) none])
 | _=>nB
def qKK:Iter:=⟨[.leaf (.sl .byte)],fun s spec x y=>((z174 (fun x a0 a1=>spec x [⟨.byte,a0⟩,⟨(.int .i64),a1⟩]) x y.1).1,(z174 (fun x a0 a1=>spec x [⟨.byte,a0⟩,⟨(.int .i64),a1⟩]) x y.1).2.1)⟩
def s_z113:Sp
 | [db a0 _]=>(true,(.abs (qdy [.leaf (.sl .byte)]) (clInv 174 [.leaf (.sl .byte)]) (a0,())))
 | _=>nB
def s_z54:Sp
 | [db a0 _]=>(qEX a0,(.tup [(db ((z54 a0).1) none),(de ((z54 a0).2) none)]))
 | _=>nB
def s_z28:Sp
 | [db a0 _]=>(qEY a0,(db (z28 a0) none))
 | _=>nB
def s_z59:Sp
 | [db a0 _]=>(qvN a0,(.dat (.sl (.int .i32)) (z59 a0) (some (2,21))))
 | _=>nB
def s_z114:Sp
 | [dm a0 _]=>(true,(dm (z114 a0) none))
 | _=>nB
def s_z55:Sp
 | [db a0 _]=>(qET a0,(.dat (.sl (.int .i32)) (z55 a0) (some (2,21))))
 | _=>nB
def s_z176:Sp
 | []=>(true,(.dat (.arr 8 (.pair .byte (.pair (.int .i32) .unit))) z176 none))
 | _=>nB
def s_z115:Sp
 | [dp a0 _]=>(true,(dm (z115 a0) none))
 | _=>nB
def s_z56:Sp
 | [db a0 _]=>(qER a0,(.dat (.sl (.int .i32)) (z56 a0) (some (2,21))))
 | _=>nB
def s_z177:Sp
 | []=>(true,(.dat (.sl (.int .i32)) z177 none))
 | _=>nB
def s_z116:Sp
 | [dp a0 _]=>(true,(dm (z116 a0) none))
 | _=>nB
def s_z57:Sp
 | [db a0 _]=>(qES a0,(.dat (.sl (.int .i32)) (z57 a0) (some (2,21))))
 | _=>nB
def s_z118:Sp
 | [dm a0 _,de a1 _,.pbox (.osl 21 (.int .i32)) a2 none]=>((qtt a0 a1 a2),.tup [(.tup []),.bad,.bad,(.pbox (.osl 21 (.int .i32)) (z118 a0 a1 a2) none)])
 | _=>nB
def s_z185:Sp
 | [de a0 _]=>(true,(dp (z185 a0) none))
 | _=>nB
def s_z218:Sp
 | [dp a0 _]=>(true,(de (z218 a0) none))
 | _=>nB
def s_z237:Sp
 | [dp a0 _]=>(true,(dh (z237 a0) none))
 | _=>nB
def s_z238:Sp
 | [dp a0 _,dp a1 _]=>(true,(dh (z238 a0 a1) none))
 | _=>nB
def s_z217:Sp
 | [db a0 _]=>(qkv a0,(de (z217 a0) none))
 | _=>nB
def s_z178:Sp
 | [db a0 _]=>(qtp a0,(.tup [(dm ((z178 a0).1) none),(de ((z178 a0).2.1) none),(de ((z178 a0).2.2) none)]))
 | _=>nB
def s_z117:Sp
 | [db a0 _,.fn 118 [.pbox (.osl 21 (.int .i32)) a1 none]]=>((qcB a0 a1),.tup [(.tup []),.bad,(.pbox (.osl 21 (.int .i32)) (qyk a0 a1) none)])
 | _=>nB
def s_z58:Sp
 | [db a0 _]=>(qEQ a0,(.dat (.sl (.int .i32)) (z58 a0) none))
 | _=>nB
def s_z29:Sp
 | [de a0 _,db a1 _]=>(qob a0 a1,(.dat (.sl (.int .i32)) (z29 a0 a1) none))
 | _=>nB
def s_z12:Sp
 | [de a0 _,de a1 _,db a2 _]=>(qrA a0 a1 a2,(.dat (.sl (.int .i32)) (z12 a0 a1 a2) none))
 | _=>nB
def s_z78:Sp
 | [dp a0 _]=>(true,(dh (z78 a0) none))
 | _=>nB
def s_z143:Sp
 | [db a0 _,db a1 _]=>(qiW a0 a1,(de (z143 a0 a1) none))
 | _=>nB
def s_z192:Sp
 | [db a0 _]=>(qKG a0,(de (z192 a0) none))
 | _=>nB
def s_z193:Sp
 | [db a0 _,dp a1 _]=>(true,(de (z193 a0 a1) none))
 | _=>nB
def s_z139:Sp
 | [db a0 _,db a1 _]=>(qfH a0 a1,(de (z139 a0 a1) none))
 | _=>nB
def s_z140:Sp
 | [dp a0 _,.pbox (.leaf (.sl .byte)) a1 none]=>((qky a0 a1),.tup [(de ((z140 a0 a1).1) none),.bad,(.pbox (.leaf (.sl .byte)) ((z140 a0 a1).2) none)])
 | _=>nB
def s_z79:Sp
 | [db a0 _]=>(qHr a0,(de (z79 a0) none))
 | _=>nB
def s_z82:Sp
 | [db a0 _,db a1 _]=>(qvO a0 a1,(.tup [(db ((z82 a0 a1).1) none),(db ((z82 a0 a1).2.1) none),(dh ((z82 a0 a1).2.2) none)]))
 | _=>nB
def s_z153:Sp
 | [db a0 _]=>(qeK a0,(db (z153 a0) (some (0,5))))
 | _=>nB
def s_z142:Sp
 | [db a0 _]=>(qtK a0,(.dat (.sl (.sl .byte)) (z142 a0) (some (2,24))))
 | _=>nB
def s_z81:Sp
 | [db a0 _]=>(qHt a0,(de (z81 a0) none))
 | _=>nB
def s_z37:Sp
 | [db a0 _,de a1 _]=>(qwb a0 a1,(de (z37 a0 a1) none))
 | _=>nB
def s_z60:Sp
 | [db a0 _]=>(qHu a0,(.tup [(db ((z60 a0).1) none),(de ((z60 a0).2) none)]))
 | _=>nB
def s_z121:Sp
 | [.pbox (.ppair (.osl 5 .byte) (.ppair (.leaf (.int .i64)) (.leaf .unit))) a0 none,dh a1 _]=>((qfJ a0 a1),.tup [(.tup []),(.pbox (.ppair (.osl 5 .byte) (.ppair (.leaf (.int .i64)) (.leaf .unit))) (z121 a0 a1) none),.bad])
 | _=>nB
def s_z119:Sp
 | [.pbox (.ppair (.osl 5 .byte) (.ppair (.leaf (.int .i64)) (.leaf .unit))) a0 none,db a1 _]=>((qkz a0 a1),.tup [(.tup []),(.pbox (.ppair (.osl 5 .byte) (.ppair (.leaf (.int .i64)) (.leaf .unit))) (z119 a0 a1) none),.bad])
 | _=>nB
def s_z120:Sp
 | [db a0 _,de a1 _]=>(qje a0 a1,(de (z120 a0 a1) none))
 | _=>nB
def s_z239:Sp
 | [de a0 _]=>(qeI a0,(dp (z239 a0) none))
 | _=>nB
def s_z219:Sp
 | [dp a0 _]=>(true,(db (z219 a0) (some (2,5))))
 | _=>nB
def s_z179:Sp
 | [db a0 _,dp a1 _,dp a2 _]=>(qtf a0 a1 a2,(db (z179 a0 a1 a2) (some (6,5))))
 | _=>nB
def s_z122:Sp
 | [dp a0 _,dh a1 _]=>(true,(db (z122 a0 a1) (some (4,5))))
 | _=>nB
def s_z62:Sp
 | [db a0 _]=>(qHE a0,(db (z62 a0) none))
 | _=>nB
def s_z61:Sp
 | [db a0 _]=>(qHv a0,(.tup [(db ((z61 a0).1) none),(de ((z61 a0).2) none)]))
 | _=>nB
def s_z222:Sp
 | [de a0 _]=>(true,(dp (z222 a0) none))
 | _=>nB
def s_z182:Sp
 | [db a0 _]=>(qKF a0,(db (z182 a0) (some (2,5))))
 | _=>nB
def s_z123:Sp
 | [db a0 _]=>(qyj a0,(db (z123 a0) none))
 | _=>nB
def s_z64:Sp
 | [db a0 _]=>(qwa a0,(db (z64 a0) (some (2,5))))
 | _=>nB
def s_z63:Sp
 | [db a0 _]=>(qHw a0,(.tup [(db ((z63 a0).1) none),(de ((z63 a0).2) none)]))
 | _=>nB
def s_z30:Sp
 | [de a0 _]=>(true,z30 a0)
 | _=>nB
def s_z65:Sp
 | [de a0 _]=>(true,(de (z65 a0) none))
 | _=>nB
def s_z158:Sp
 | [dm a0 _]=>(true,(dh (z158 a0) none))
 | _=>nB
def s_z127:Sp
 | [dm a0 _]=>(true,(.tup [(dp ((z127 a0).1) none),(dh ((z127 a0).2) none)]))
 | _=>nB
def s_z159:Sp
 | [dm a0 _]=>(true,(dh (z159 a0) none))
 | _=>nB
def s_z186:Sp
 | [.dat (.sl (.int .i32)) a0 _,dm a1 _]=>(qth a0 a1,(de (z186 a0 a1) none))
 | _=>nB
def s_z129:Sp
 | [dm a0 _]=>(true,(.tup [(dp ((z129 a0).1) none),(dh ((z129 a0).2) none)]))
 | _=>nB
def s_z160:Sp
 | [dm a0 _]=>(true,(dh (z160 a0) none))
 | _=>nB
def s_z211:Sp
 | [dm a0 _]=>(true,(dh (z211 a0) none))
 | _=>nB
def s_z161:Sp
 | [dm a0 _]=>(true,(dh (z161 a0) none))
 | _=>nB
def s_z105:Sp
 | [de a0 _,dm a1 _]=>(true,(dh (z105 a0 a1) none))
 | _=>nB
def s_z124:Sp
 | [de a0 _,.dat (.sl (.int .i32)) a1 _]=>(qto a0 a1,(de (z124 a0 a1) none))
 | _=>nB
def s_z66:Sp
 | [de a0 _,.dat (.sl (.int .i32)) a1 _]=>(qEO a0 a1,(dh (z66 a0 a1) none))
 | _=>nB
def s_z224:Sp
 | [dm a0 _]=>(true,(dh (z224 a0) none))
 | _=>nB
def s_z223:Sp
 | [.dat (.sl (.int .i32)) a0 _,.fn 224 []]=>(qti a0,(de (z223 a0) none))
 | _=>nB
def s_z183:Sp
 | [.dat (.sl (.int .i32)) a0 _]=>(qtj a0,(de (z183 a0) none))
 | _=>nB
def s_z125:Sp
 | [.dat (.sl (.int .i32)) a0 _]=>(qtk a0,(dh (z125 a0) none))
 | _=>nB
def s_z184:Sp
 | [dm a0 _]=>(true,(de (z184 a0) none))
 | _=>nB
def s_z126:Sp
 | [db a0 _,dm a1 _]=>(qtl a0 a1,(.tup [(db ((z126 a0 a1).1) none),(de ((z126 a0 a1).2) none)]))
 | _=>nB
def s_z67:Sp
 | [.dat (.sl (.int .i32)) a0 _]=>(qEN a0,(.tup [(db ((z67 a0).1) none),(de ((z67 a0).2) none)]))
 | _=>nB
def s_z68:Sp
 | [.dat (.sl (.int .i32)) a0 _]=>(qEL a0,(.tup [(db ((z68 a0).1) none),(de ((z68 a0).2) none)]))
 | _=>nB
def s_z128:Sp
 | [.dat (.sl (.int .i32)) a0 _]=>(qtm a0,(de (z128 a0) none))
 | _=>nB
def s_z69:Sp
 | [.dat (.sl (.int .i32)) a0 _]=>(qEM a0,(.tup [(db ((z69 a0).1) none),(de ((z69 a0).2) none)]))
 | _=>nB
def s_z130:Sp
 | [.dat (.sl (.int .i32)) a0 _]=>(qtn a0,(de (z130 a0) none))
 | _=>nB
def s_z70:Sp
 | [.dat (.sl (.int .i32)) a0 _]=>(qEK a0,(.tup [(db ((z70 a0).1) none),(de ((z70 a0).2) none)]))
 | _=>nB
def s_z31:Sp
 | [de a0 _,.dat (.sl (.int .i32)) a1 _]=>(qvL a0 a1,(.tup [(db ((z31 a0 a1).1) none),(de ((z31 a0 a1).2) none)]))
 | _=>nB
def s_z13:Sp
 | [de a0 _,de a1 _,.dat (.sl (.int .i32)) a2 _]=>(qwd a0 a1 a2,(.tup [(db ((z13 a0 a1 a2).1) none),(de ((z13 a0 a1 a2).2) none)]))
 | _=>nB
def s_z49:Sp
 | [dm a0 _]=>(true,(de (z49 a0) none))
 | _=>nB
def s_z163:Sp
 | [.dat (.int .u64) a0 _]=>(qye a0,(de (z163 a0) none))
 | _=>nB
def s_z106:Sp
 | [.dat (.int .u64) a0 _]=>(qta a0,(de (z106 a0) none))
 | _=>nB
def s_z50:Sp
 | [de a0 _]=>(qEA a0,(de (z50 a0) none))
 | _=>nB
def s_z24:Sp
 | [.dat (.sl (.int .i32)) a0 _]=>(qEB a0,(.tup [(de ((z24 a0).1) none),(de ((z24 a0).2) none)]))
 | _=>nB
def s_z25:Sp
 | [.dat (.sl (.int .i32)) a0 _,.dat (.sl (.int .i32)) a1 _]=>(qwg a0 a1,(dh (z25 a0 a1) none))
 | _=>nB
def s_z8:Sp
 | [.dat (.sl (.int .i32)) a0 _]=>(z8_ok a0,(.tup [(de ((z8 a0).1) none),(de ((z8 a0).2.1) none),(db ((z8 a0).2.2.1) none),(de ((z8 a0).2.2.2) none)]))
 | _=>nB
def s_z11:Sp
 | [.dat (.sl (.int .i32)) a0 _,.dat (.sl (.int .i32)) a1 _]=>(qqo a0 a1,(dh (z11 a0 a1) none))
 | _=>nB
def s_z7:Sp
 | []=>(true,(dg z7))
 | _=>nB
def s_z77:Sp
 | [dm a0 _]=>(true,(dh (z77 a0) none))
 | _=>nB
def s_z36:Sp
 | [dm a0 _]=>(true,(dh (z36 a0) none))
 | _=>nB
def s_z187:Sp
 | [dp a0 _]=>(true,(dm (z187 a0) none))
 | _=>nB
def s_z132:Sp
 | [dm a0 _]=>(true,(.tup [(dp ((z132 a0).1) none),(dh ((z132 a0).2) none)]))
 | _=>nB
def s_z90:Sp
 | [dp a0 _]=>(true,(dm (z90 a0) none))
 | _=>nB
def s_z133:Sp
 | [dm a0 _]=>(true,(.tup [(dp ((z133 a0).1) none),(dh ((z133 a0).2) none)]))
 | _=>nB
def s_z91:Sp
 | [dp a0 _]=>(true,(dm (z91 a0) none))
 | _=>nB
def s_z134:Sp
 | [dm a0 _]=>(true,(.tup [(dp ((z134 a0).1) none),(dh ((z134 a0).2) none)]))
 | _=>nB
def s_z131:Sp
 | [de a0 _,dm a1 _]=>(true,(dh (z131 a0 a1) none))
 | _=>nB
def s_z135:Sp
 | [dm a0 _]=>(true,(db (z135 a0) (some (2,5))))
 | _=>nB
def s_z71:Sp
 | [de a0 _,dm a1 _]=>(true,(db (z71 a0 a1) (some (4,5))))
 | _=>nB
def s_z32:Sp
 | [de a0 _,.dat (.sl (.int .i32)) a1 _]=>(qEP a0 a1,(.tup [(db ((z32 a0 a1).1) none),(de ((z32 a0 a1).2) none)]))
 | _=>nB
def s_z72:Sp
 | [db a0 _]=>(qHD a0,(db (z72 a0) (some (2,5))))
 | _=>nB
def s_z225:Sp
 | [df a0 _,dp a1 _]=>(qKH a0 a1,(dh (z225 a0 a1) none))
 | _=>nB
def s_z188:Sp
 | [dp a0 _]=>(true,(de (z188 a0) none))
 | _=>nB
def s_z136:Sp
 | [dp a0 _,de a1 _]=>(true,(dh (z136 a0 a1) none))
 | _=>nB
def s_z189:Sp
 | [de a0 _]=>(qcl a0,(dp (z189 a0) none))
 | _=>nB
def s_z137:Sp
 | [db a0 _,dp a1 _,dp a2 _]=>(qtg a0 a1 a2,(db (z137 a0 a1 a2) (some (6,5))))
 | _=>nB
def s_z73:Sp
 | [dp a0 _,dh a1 _]=>(true,(db (z73 a0 a1) (some (4,5))))
 | _=>nB
def s_z33:Sp
 | [db a0 _]=>(qHF a0,(db (z33 a0) (some (2,5))))
 | _=>nB
def s_z151:Sp
 | [.dat (.sl (.int .i64)) a0 _]=>(qdk a0,(de (z151 a0) none))
 | _=>nB
def s_z190:Sp
 | [db a0 _]=>(qnZ a0,(.dat (.sl (.int .i64)) (z190 a0) (some (2,3))))
 | _=>nB
def s_z191:Sp
 | [de a0 _]=>(true,(dp (z191 a0) none))
 | _=>nB
def s_z138:Sp
 | [db a0 _]=>(qoa a0,(db (z138 a0) (some (2,5))))
 | _=>nB
def s_z74:Sp
 | [db a0 _]=>(qvM a0,(db (z74 a0) (some (2,5))))
 | _=>nB
def s_z34:Sp
 | [db a0 _]=>(qBp a0,(db (z34 a0) (some (2,5))))
 | _=>nB
def s_z75:Sp
 | [db a0 _]=>(qHs a0,(de (z75 a0) none))
 | _=>nB
def s_z102:Sp
 | [db a0 _]=>(qtv a0,(.tup [(.dat (.sl (.sl .byte)) ((z102 a0).1) none),(dh ((z102 a0).2) none)]))
 | _=>nB
def s_z76:Sp
 | [db a0 _]=>(qFd a0,(.dat (.sl (.sl .byte)) (z76 a0) none))
 | _=>nB
def s_z35:Sp
 | [db a0 _,de a1 _]=>(qwc a0 a1,(de (z35 a0 a1) none))
 | _=>nB
def s_z14:Sp
 | [de a0 _,de a1 _,.dat (.sl (.int .i32)) a2 _]=>(qwe a0 a1 a2,(.tup [(db ((z14 a0 a1 a2).1) none),(de ((z14 a0 a1 a2).2) none)]))
 | _=>nB
def s_z202:Sp
 | [dp a0 _]=>(true,(.tup [(de ((z202 a0).1) none),(dh ((z202 a0).2) none)]))
 | _=>nB
def s_z149:Sp
 | [db a0 _,de a1 _,dp a2 _]=>(qte a0 a1 a2,(.tup [(dp ((z149 a0 a1 a2).1) none),(dh ((z149 a0 a1 a2).2) none)]))
 | _=>nB
def s_z85:Sp
 | [db a0 _]=>(qwp a0,(.tup [(db ((z85 a0).1) none),(dh ((z85 a0).2.1) none),(de ((z85 a0).2.2) none)]))
 | _=>nB
def s_z40:Sp
 | [db a0 _]=>(qHI a0,(.tup [(db ((z40 a0).1) none),(de ((z40 a0).2) none)]))
 | _=>nB
def s_z150:Sp
 | [dp a0 _]=>(true,(.tup [(de ((z150 a0).1) none),(dh ((z150 a0).2) none)]))
 | _=>nB
def s_z86:Sp
 | [db a0 _]=>(qEZ a0,(.tup [(db ((z86 a0).1) none),(de ((z86 a0).2) none)]))
 | _=>nB
def s_z87:Sp
 | [db a0 _]=>(qEV a0,(.tup [(.dat (.sl (.int .i64)) ((z87 a0).1) none),(dh ((z87 a0).2) none)]))
 | _=>nB
def s_z88:Sp
 | [.dat (.sl (.int .i64)) a0 _]=>(qEW a0,(.tup [(db ((z88 a0).1) none),(dh ((z88 a0).2) none)]))
 | _=>nB
def s_z41:Sp
 | [db a0 _]=>(qFa a0,(.tup [(db ((z41 a0).1) none),(de ((z41 a0).2) none)]))
 | _=>nB
def s_z204:Sp
 | [dp a0 _]=>(true,(de (z204 a0) none))
 | _=>nB
def s_z232:Sp
 | [dp a0 _]=>(true,(.tup [(dp ((z232 a0).1) none),(dp ((z232 a0).2) none)]))
 | _=>nB
def s_z203:Sp
 | [db a0 _]=>(qtq a0,(de (z203 a0) none))
 | _=>nB
def s_z152:Sp
 | [db a0 _]=>(qtr a0,(.tup [(dm ((z152 a0).1) none),(de ((z152 a0).2.1) none),(de ((z152 a0).2.2) none)]))
 | _=>nB
def s_z89:Sp
 | [db a0 _]=>(qEU a0,(.tup [(.dat (.sl (.int .i32)) ((z89 a0).1) none),(de ((z89 a0).2.1) none),(de ((z89 a0).2.2) none)]))
 | _=>nB
def s_z42:Sp
 | [de a0 _,db a1 _]=>(qoc a0 a1,(.dat (.sl (.int .i32)) (z42 a0 a1) none))
 | _=>nB
def s_z20:Sp
 | [de a0 _,de a1 _,db a2 _]=>(qwf a0 a1 a2,(.dat (.sl (.int .i32)) (z20 a0 a1 a2) none))
 | _=>nB
def s_z107:Sp
 | [de a0 _,.dat (.sl (.int .i32)) a1 _]=>(qtb a0 a1,(de (z107 a0 a1) none))
 | _=>nB
def s_z51:Sp
 | [de a0 _,.dat (.sl (.int .i32)) a1 _]=>(qEC a0 a1,(dh (z51 a0 a1) none))
 | _=>nB
def s_z26:Sp
 | [.dat (.sl (.int .i32)) a0 _]=>(qED a0,(.tup [(de ((z26 a0).1) none),(de ((z26 a0).2) none)]))
 | _=>nB
def s_z9:Sp
 | [.dat (.sl (.int .i32)) a0 _]=>(z9_ok a0,(.tup [(de ((z9 a0).1) none),(de ((z9 a0).2.1) none),(db ((z9 a0).2.2.1) none),(de ((z9 a0).2.2.2) none)]))
 | _=>nB
def s_z10:Sp
 | [db a0 _,db a1 _]=>(qFb a0 a1,(dh (z10 a0 a1) none))
 | _=>nB
def s_z3:Sp
 | [.dat (.sl (.int .i32)) a0 _]=>(z3_ok a0,(dh (z3 a0) none))
 | _=>nB
theorem qoi:gG 164 s_z164:=fun w S hg vals avs r h hS ha=>by
 unfold s_z164 at h;split at h
 ·simp only[yb,true_and] at h;subst h;exact qwh func164 (by kernel_rfl) (by kernel_rfl) (by kernel_rfl) (by kernel_rfl) hS ha
 ·cases h
def s_z170 (m0:Int):Sp
 | [df a0 _,df a1 _]=>(qod m0 a0 a1,(de (z170 a0 a1) none))
 | _=>nB
theorem qyE (m0:Int):qfk (Gm m0) prog 170 (s_z170 m0):=fun w S hg vals avs r h hS ha=>by
 unfold s_z170 at h;split at h
 ·obtain⟨hp,rfl⟩:=yj h;simp only[qod,yf,ym] at hp;have hm:w.cell? ⟨0,0,none⟩=some (.int .i64 m0):=by
   cases hg.2 0 (.int .i64) m0 rfl with
   | adr _ _ ad cs h1 h2 =>
    have e:cs=[.int .i64 m0]:=h1;subst e;exact((h2.2 (by simp)).2 0 _ rfl).2
  exact qwi func170 (by kernel_rfl) (by kernel_rfl) (by kernel_rfl) (by kernel_rfl) (g:=0) (by kernel_rfl) hm hS ha hp.1.1 hp.1.2 hp.2
 ·cases h
theorem qyF:gG 165 s_z165:=fun w S hg vals avs r h hS ha=>by
 unfold s_z165 at h;split at h
 ·simp only[yb] at h;cases h.1
 ·cases h
theorem qyG:gG 169 s_z169:=fun w S hg vals avs r h hS ha=>by
 unfold s_z169 at h;split at h
 ·obtain⟨hp,rfl⟩:=yj h;obtain⟨m,hm⟩:=hg;exact qwj hm.1.1 hS ha (by simpa [qoe] using hp)
 ·cases h
theorem qoj:gG 143 s_z143:=fun w S hg vals avs r h hS ha=>by
 unfold s_z143 at h;split at h
 ·obtain⟨hp,rfl⟩:=yj h;unfold qiW at hp;simp only[yf,ym] at hp;obtain⟨m,hm⟩:=hg;have hc:w.cell? ⟨0,0,none⟩=some (.int .i64 m):=by
   cases hm.2 0 (.int .i64) m rfl with
   | adr _ _ ad cs h1 h2 =>
    have e:cs=[.int .i64 m]:=h1;subst e;exact((h2.2 (by simp)).2 0 _ rfl).2
  exact qwk hc hS ha (qb hp.1) (qb hp.2.1) hp.2.2
 ·cases h
theorem qiX:gG 153 s_z153:=fun w S hg vals avs r h hS ha=>by
 unfold s_z153 at h;split at h
 ·obtain⟨hp,rfl⟩:=yj h;exact qwl hS ha (qb hp)
 ·cases h
theorem qyH:gG 193 s_z193:=fun w S hg vals avs r h hS ha=>by
 unfold s_z193 at h;split at h
 ·simp only[yb,true_and] at h;subst h;exact qwm hS ha
 ·cases h
theorem qyI:gG 192 s_z192:=fun w S hg vals avs r h hS ha=>by
 unfold s_z192 at h;split at h
 ·simp only[yb] at h;cases h.1
 ·cases h
theorem qyJ:gG 141 s_z141:=fun w S hg vals avs r h hS ha=>by
 unfold s_z141 at h;split at h
 ·simp only[yb,true_and] at h;subst h;exact qwn hS ha
 ·cases h
theorem qyK:gG 210 s_z210:=fun w S hg vals avs r h hS ha=>by
 unfold s_z210 at h;split at h
 ·simp only[yb] at h;cases h.1
 ·cases h
theorem qyL:gG 163 s_z163:=fun w S hg vals avs r h hS ha=>by
 unfold s_z163 at h;split at h
 ·obtain⟨hp,rfl⟩:=yj h;have hp':=of_decide_eq_true hp;obtain⟨m,hm⟩:=hg;exact qwo hm.1.2 hS ha hp'.1 hp'.2
 ·cases h
theorem qFy:gG 80 s_z80:=sY [(141,s_z141)] 8 (some [4]) (fC qyJ fN) func80 fun avs r h=>by
 unfold s_z80 at h;split at h <;> cases h
 exact eX (qPG _ _)
theorem qyM:gG 166 s_z166:=sY [] 5 (some [2]) fN func166 fun avs r h=>by
 unfold s_z166 at h;split at h <;> cases h
 exact eX (qJS _)
def qqv:EnvP:=eQ [] 21 (some [2,3]) (fun x=>if x=2 then some [0,2,4] else none) (fun x=>if x=0 then some [2] else if x=1 then some [0,2,4] else none) nP
def qFz:Code:=cO f167
def qRR:Array ResultVar:=f167.results
noncomputable def qqw (K:KT):=fun as2 ok3=>K .ret (frOf [(2,(.box (.arr 256 .bool) as2)),(3,dg ok3)])
noncomputable def qqx (K:KT):=fun as2=>K (.exit 0) (frOf [(2,(.box (.arr 256 .bool) as2))])
def qNp (n:Nat):KT:=qf 0 (qqv.cutb 0) (kSeq (evCP qqv (evLP qqv n) (sub qFz [1,1])) (kFnP qqv qRR))
def qNq (chars0:LU) (as2:List Bool) (i4:Int):Fr:=frOf [(0,(df chars0 none)),(2,(.box (.arr 256 .bool) as2)),(4,dc i4)]
theorem qyN (K:KT) (n:Nat):(fun chars0 as2 i4=>evLP qqv n (sub qFz [1,0,1,0,0]) K (qNq chars0 as2 i4))=qhs (qqw K) (qqx K) n:=by
 induction n
 kernel_rfl;rename_i n ih;show _=qee (qqw K) (qqx K) (qhs (qqw K) (qqx K) n) n;rw[← ih];kernel_rfl
theorem qRS (n:Nat) (chars0:LU) (o0:Lab):evFnP qqv n qFz qRR [df chars0 o0]=qBz n chars0:=by
 unfold qBz;rw[(Eq.trans (by kernel_rfl) (qyN (qNp n) n).symm:qhs qjf (qmh n) n=_)];kernel_rfl
theorem qok:gG 167 s_z167:=sQ (E:=qqv) (c:=qFz) rfl fN func167 fun avs r h=>by
 unfold s_z167 at h;split at h
 ·obtain⟨hp,rfl⟩:=yj h;exact eX (qIG _ hp) fun n=>qRS n _ _
 ·cases h
theorem qol:gG 168 s_z168:=sY [] 10 (some [4]) fN func168 fun avs r h=>by
 unfold s_z168 at h;split at h <;> cases h
 exact eX (qIH _ _)
def qav (m0:Int):EnvP:=⟨⟨tiOf tis,fnsOf [(164,s_z164),(165,s_z165),(166,s_z166),(167,s_z167),(168,s_z168),(169,s_z169),(170,(s_z170 m0))],cnsOf [],[],129,(fun x=>if x=7 then some [28] else if x=24 then some [7,60,61,62] else if x=32 then some [0,1,12] else if x=48 then some [0,1,11,12,13,121] else none),(fun x=>if x=0 then some [] else if x=1 then some [28] else if x=2 then some [] else if x=3 then some [7,60,61,62] else if x=4 then some [] else if x=5 then some [0,1,11,12] else if x=6 then some [0,1,11,12] else if x=7 then some [0,1,11,12,13,121] else none),some [4]⟩,fun _=>none,glm m0,(fun x=>if x=24 then [7] else []),fun _=>none,fun _=>none,fun _=>none,fun _=>none⟩
def qeX:Code:=cO f109
def qFA:Array ResultVar:=f109.results
def qNr (m0:Int) (n:Nat):KT:=qf 0 ((qav m0).cutb 0) (kSeq (evCP (qav m0) (evLP (qav m0) n) (sub qeX [1,1,0,1,0,1,0,1,0,1])) (kSeq (evCP (qav m0) (evLP (qav m0) n) (sub qeX [1,1,0,1,0,1,1])) (kSeq (evCP (qav m0) (evLP (qav m0) n) (sub qeX [1,1,1])) (kFnP (qav m0) qFA))))
def qNs (m0:Int) (n:Nat) (K:KT):KT:=qf 6 ((qav m0).cutb 6) (qf 5 ((qav m0).cutb 5) (kSeq (evCP (qav m0) (evLP (qav m0) n) (sub qeX [1,1,1,1,1,1,0,1,0,0,1,1])) (kSeq (fun K fr=>evLP (qav m0) n (sub qeX [1,1,1,1,1,1,0,1,0,0]) K (cutFP ((qav m0).cuts 32) fr)) K)))
def qNt (m0:Int) (n:Nat):KT:=qf 2 ((qav m0).cutb 2) (kSeq (evCP (qav m0) (evLP (qav m0) n) (sub qeX [1,1,1,1,0,1,0,1,1,0,1])) (kSeq (evCP (qav m0) (evLP (qav m0) n) (sub qeX [1,1,1,1,1])) (kFnP (qav m0) qFA)))
def qNu (m0:Int) (n:Nat):KT:=qf 4 ((qav m0).cutb 4) (kSeq (evCP (qav m0) (evLP (qav m0) n) (sub qeX [1,1,1,1,1,1,1])) (kFnP (qav m0) qFA))
def qNv (s0:LU) (chars1:LU) (width11:Int) (i12:Int) (r13:Int) (s121:LU) (s121p:Nat):Fr:=frOf [(0,da s0),(1,(df chars1 none)),(11,dc width11),(12,dc i12),(13,di r13),(121,(.itr s121 s121p))]
def qNw (as7:List Bool) (s60:LU) (s61:Int) (s62:Int):Fr:=frOf [(7,(.adr (.arr 256 .bool) as7)),(60,da s60),(61,dc s61),(62,dc s62)]
def qqy (s0:LU) (chars1:LU) (width11:Int) (i12:Int):Fr:=frOf [(0,da s0),(1,(df chars1 none)),(11,dc width11),(12,dc i12)]
def qyO (s0:LU) (chars1:LU) (i12:Int):Fr:=frOf [(0,da s0),(1,(df chars1 none)),(12,dc i12)]
theorem qyP (m0:Int) (K:KT) (n:Nat):(fun s28 s28p=>evLP (qav m0) n (sub qeX [1,1,0,1,0,1,0,1,0,0,1,0,0]) K (frOf [(28,(.itr s28 s28p))]))=(qht m0) (fun s4=>K .ret (frOf [(4,dc s4)])) (K (.exit 0) (frOf [])) n:=by
 induction n
 kernel_rfl;rename_i n ih;show _=(qef m0) (fun s4=>K .ret (frOf [(4,dc s4)])) (K (.exit 0) (frOf [])) ((qht m0) (fun s4=>K .ret (frOf [(4,dc s4)])) (K (.exit 0) (frOf [])) n) n;rw[← ih];kernel_rfl
theorem qvP (m0:Int) (K:KT) (n:Nat):(fun as7 s60 s61 s62=>evLP (qav m0) n (sub qeX [1,1,1,1,0,1,0,1,1,0,0,1,0,0]) K (qNw as7 s60 s61 s62))=(qdD m0) (fun s4=>K .ret (frOf [(4,dc s4)])) (K (.exit 2) (frOf [])) n:=by
 induction n
 kernel_rfl;rename_i n ih;show _=(qcD m0) (fun s4=>K .ret (frOf [(4,dc s4)])) (K (.exit 2) (frOf [])) ((qdD m0) (fun s4=>K .ret (frOf [(4,dc s4)])) (K (.exit 2) (frOf [])) n) n;rw[← ih];kernel_rfl
theorem qvQ (m0:Int) (K:KT) (n:Nat):(fun s0 chars1 width11 i12 r13 s121 s121p=>evLP (qav m0) n (sub qeX [1,1,1,1,1,1,0,1,0,0,1,0,0,1,1,1,1,1,0,0]) K (qNv s0 chars1 width11 i12 r13 s121 s121p))=(qct m0) (fun s4=>K .ret (frOf [(4,dc s4)])) (fun s0 chars1 width11 i12=>K (.exit 6) (qqy s0 chars1 width11 i12)) n:=by
 induction n
 kernel_rfl;rename_i n ih;show _=(qcE m0) (fun s4=>K .ret (frOf [(4,dc s4)])) (fun s0 chars1 width11 i12=>K (.exit 6) (qqy s0 chars1 width11 i12)) ((qct m0) (fun s4=>K .ret (frOf [(4,dc s4)])) (fun s0 chars1 width11 i12=>K (.exit 6) (qqy s0 chars1 width11 i12)) n) n;rw[← ih];kernel_rfl
theorem qvR (m0:Int) (K:KT) (n:Nat):(fun s0 chars1 i12=>evLP (qav m0) n (sub qeX [1,1,1,1,1,1,0,1,0,0]) K (qyO s0 chars1 i12))=(qcu m0) (fun s4=>K .ret (frOf [(4,dc s4)])) (K (.exit 4) (frOf [])) n:=by
 induction n
 kernel_rfl;rename_i n ih;funext s0 chars1 i12;show _=(qdE m0) (fun s4=>K .ret (frOf [(4,dc s4)])) (K (.exit 4) (frOf [])) ((qcu m0) (fun s4=>K .ret (frOf [(4,dc s4)])) (K (.exit 4) (frOf [])) n) n s0 chars1 i12;rw[← ih];unfold qdE qq;rw[(Eq.trans (by kernel_rfl) ((qvQ m0) (qNs m0 n K) n).symm:(qct m0) (fun s4=>K .ret (frOf [(4,dc s4)])) ((qfL m0) (fun s4=>K .ret (frOf [(4,dc s4)])) (K (.exit 4) (frOf [])) (fun s0 chars1 i12=>evLP (qav m0) n (sub qeX [1,1,1,1,1,1,0,1,0,0]) K (qyO s0 chars1 i12)) n) n=_)];kernel_rfl
theorem qRT (m0:Int) (n:Nat) (s0:LU) (o0:Lab) (chars1:LU) (o1:Lab):evFnP (qav m0) n qeX qFA [db s0 o0,df chars1 o1]=(qtT m0) n s0 chars1:=by
 unfold qtT qdF;rw[(Eq.trans (by kernel_rfl) ((qyP m0) (qNr m0 n) n).symm:(qht m0) qKR ((qtS m0) n) n=_)];rw[(Eq.trans (by kernel_rfl) ((qvP m0) (qNt m0 n) n).symm:(qdD m0) qKR ((qjg m0) n) n=_)];rw[(Eq.trans (by kernel_rfl) ((qvR m0) (qNu m0 n) n).symm:(qcu m0) qKR ((qfM m0) n) n=_)];kernel_rfl
theorem qvS (m0:Int):qfk (Gm m0) prog 109 s_z109:=by
 refine qds (qBr m0) (E:=qav m0) (fn:=f109) (c:=qeX) (qT rfl qoh) (fun w S hg=>⟨⟨(qF (qoi w S (G_of m0 hg)) (qF (qyF w S (G_of m0 hg)) (qF (qyM w S (G_of m0 hg)) (qF (qok w S (G_of m0 hg)) (qF (qol w S (G_of m0 hg)) (qF (qyG w S (G_of m0 hg)) (qF (qyE m0 w S hg) qaE))))))),fun f sp h=>qaD f sp h w S⟩,hg.2,(fun _ _ h=>by cases h),(fun _ _ h=>by cases h),(fun _ _ h=>by cases h),(fun _ _ _ h=>by cases h)⟩) follows func109 (by kernel_rfl) (by kernel_rfl) (by kernel_rfl) ?_;intro avs r h;unfold s_z109 at h;split at h
 ·obtain⟨hp,rfl⟩:=yj h;exact eX (qJU m0 _ _ hp) fun n=>qRT m0 n _ _ _ _
 ·cases h
theorem qyQ:gG 109 s_z109:=fun w S hg=>by obtain⟨m,h⟩:=G_to hg;exact qvS m w S h
theorem qom:gG 194 s_z194:=sY [] 10 (some [4]) fN func194 fun avs r h=>by
 unfold s_z194 at h;split at h <;> cases h
 exact eX (qIL _ _)
theorem qyR:gG 171 s_z171:=sY [(194,s_z194)] 18 (some [4]) (fC qom fN) func171 fun avs r h=>by
 unfold s_z171 at h;split at h <;> cases h
 exact eX (qKe _ _)
theorem qyS:gG 110 s_z110:=sZ [(171,s_z171)] 12 (some [2]) nC (fun x=>if x=0 then some [] else none) nP (fC qyR fN) func110 fun avs r h=>by
 unfold s_z110 at h;split at h <;> cases h
 exact eX (qKh _)
def qyT:EnvP:=eQ [(109,s_z109),(110,s_z110)] 35 (some [35,36]) (fun x=>if x=0 then some [0,1,35,36] else none) (fun x=>if x=0 then some [35,36] else if x=1 then some [0,1,35,36] else none) nP
def qRU:Code:=cO f108
def qRV:Array ResultVar:=f108.results
def qNx (V:Sigma Inv) (x0:Den V.1) (x1:LU):KT:=qf 0 (qyT.cutb 0) (kFnM qyT qRV [.abs V.1 V.2 x0,.pbox (.leaf (.sl .byte)) x1 none])
def qNy (V:Sigma Inv) (xv:Den V.1) (s36:LU):Fr:=frOf [(0,(.padr 35 [])),(1,(.padr 36 [])),(35,(.abs V.1 V.2 xv)),(36,(.pbox (.leaf (.sl .byte)) s36 none))]
def qgv (V:Sigma Inv) (xv:Den V.1) (s36:LU):Fr:=frOf [(35,(.abs V.1 V.2 xv)),(36,(.pbox (.leaf (.sl .byte)) s36 none))]
theorem qyU (V:Sigma Inv) (K:KT) (n:Nat):(fun xv s36=>evLP qyT n (sub qRU [0,0]) K (qNy V xv s36))=(qhu V) (fun xv s36=>K .ret (qgv V xv s36)) (fun xv s36=>K (.exit 0) (qgv V xv s36)) n:=by
 induction n
 kernel_rfl;rename_i n ih;show _=(qia V) (fun xv s36=>K .ret (qgv V xv s36)) (fun xv s36=>K (.exit 0) (qgv V xv s36)) ((qhu V) (fun xv s36=>K .ret (qgv V xv s36)) (fun xv s36=>K (.exit 0) (qgv V xv s36)) n) n;rw[← ih];kernel_rfl
theorem qRW (V:Sigma Inv) (n:Nat) (x0:Den V.1) (x1:LU):evFnM qyT n qRU qRV [.abs V.1 V.2 x0,.pbox (.leaf (.sl .byte)) x1 none]=(qBC V) n x0 x1:=by
 unfold qBC;rw[(Eq.trans (by kernel_rfl) ((qyU V) (qNx V x0 x1) n).symm:(qhu V) (qji V) ((qtU V) n) n=_)];kernel_rfl
theorem qvT:qkb G prog 108 s_z108:=sM (E:=qyT) (fun w S hg=>⟨⟨(qF (qyQ w S hg) (qF (qyS w S hg) qaE)),fun f sp h=>qaD f sp h w S⟩,qaO w S hg,(fun _ _ h=>by cases h),(fun f sp h=>qbt f sp h),(fun f it h=>qbu f it h),(fun t kt vt h=>qaR t kt vt h)⟩) func108 fun avs r h=>by
 unfold s_z108 at h;split at h
 ·rename_i s V x _;simp only[yb] at h;obtain⟨hp,rfl⟩:=h;obtain⟨n,hn⟩:=qKk ⟨s,V⟩ _ _ hp;exact⟨n,(qRW ⟨s,V⟩ n _ _).trans hn⟩
 ·cases h
theorem qyV:qML G prog 108 qKJ:=qkm qvT (enters_of func108 (by kernel_rfl) rfl) (fun s V x x' y h=>by
 obtain⟨h1,h2⟩:=yj h;subst h2;refine⟨_,_,Prod.ext h1 rfl⟩)
def E_z52:EnvP:=eQ [] 4 (none) nC nC (fun x=>if x=1 then some (.leaf (.sl .byte)) else none)
def C_z52:Code:=cO f52
def R_z52:Array ResultVar:=f52.results
theorem qWk (n:Nat) (s0:LU) (o0:Lab):evFnR E_z52 n C_z52 R_z52 [db s0 o0]=qXr n s0:=by
 kernel_rfl
theorem qFB:qMK G prog 52 s_z52:=by
 refine qir G_stays (E:=E_z52) (fn:=f52) (c:=C_z52) (qT rfl qoh) (fun w S hg=>⟨⟨qaE,fun f sp h=>qaD f sp h w S⟩,qaO w S hg,(fun _ _ h=>by cases h),(fun f sp h=>qbt f sp h),(fun f it h=>qbu f it h),(fun t kt vt h=>qaR t kt vt h)⟩) follows func52 (by kernel_rfl) (by kernel_rfl) (by kernel_rfl) ?_;intro avs r h;unfold s_z52 at h;split at h
 ·simp only[yb,true_and] at h;subst h;exact⟨0,qWk 0 _ _⟩
 ·cases h
def qqz:EnvP:=eQ [] 24 (some [4]) (fun x=>if x=1 then some [0,1] else none) (fun x=>if x=0 then some [0] else if x=1 then some [0,1] else none) nP
def qFC:Code:=cO f206
def qRX:Array ResultVar:=f206.results
noncomputable def qqA (K:KT):=fun s0=>K (.exit 0) (frOf [(0,da s0)])
def qNz (n:Nat):KT:=qf 0 (qqz.cutb 0) (kSeq (evCP qqz (evLP qqz n) (sub qFC [1,1])) (kFnP qqz qRX))
def qNA (s0:LU) (c1:UInt8):Fr:=frOf [(0,da s0),(1,dn c1)]
theorem qyW (K:KT) (n:Nat):(fun s0 c1=>evLP qqz n (sub qFC [1,0,0,0]) K (qNA s0 c1))=qoU (qqA K) n:=by
 induction n
 kernel_rfl;rename_i n ih;show _=qtV (qqA K) (qoU (qqA K) n) n;rw[← ih];kernel_rfl
theorem qRY (n:Nat) (s0:LU) (o0:Lab) (c1:UInt8) (o1:Lab):evFnP qqz n qFC qRX [db s0 o0,dp c1 o1]=qBE n s0 c1:=by
 unfold qBE;rw[(Eq.trans (by kernel_rfl) (qyW (qNz n) n).symm:qoU (qtW n) n=_)];kernel_rfl
theorem qyX:gG 206 s_z206:=sQ (E:=qqz) (c:=qFC) rfl fN func206 fun avs r h=>by
 unfold s_z206 at h;split at h
 ·obtain⟨hp,rfl⟩:=yj h;exact eX (qII _ _ hp) fun n=>qRY n _ _ _ _
 ·cases h
def qqB:EnvP:=eQ [(168,s_z168)] 23 (some [4]) (fun x=>if x=1 then some [0,1] else none) (fun x=>if x=0 then some [0] else if x=1 then some [0,1] else none) nP
def qFD:Code:=cO f208
def qRZ:Array ResultVar:=f208.results
noncomputable def qqC (K:KT):=fun s0=>K (.exit 0) (frOf [(0,da s0)])
def qNB (n:Nat):KT:=qf 0 (qqB.cutb 0) (kSeq (evCP qqB (evLP qqB n) (sub qFD [1,1])) (kFnP qqB qRZ))
def qNC (s0:LU) (as1:List Bool):Fr:=frOf [(0,da s0),(1,(.adr (.arr 256 .bool) as1))]
theorem qyY (K:KT) (n:Nat):(fun s0 as1=>evLP qqB n (sub qFD [1,0,0,0]) K (qNC s0 as1))=qjj (qqC K) n:=by
 induction n
 kernel_rfl;rename_i n ih;show _=qib (qqC K) (qjj (qqC K) n) n;rw[← ih];kernel_rfl
theorem qSa (n:Nat) (s0:LU) (o0:Lab) (as1:List Bool):evFnP qqB n qFD qRZ [db s0 o0,.adr (.arr 256 .bool) as1]=qtY n s0 as1:=by
 unfold qtY;rw[(Eq.trans (by kernel_rfl) (qyY (qNB n) n).symm:qjj (qtX n) n=_)];kernel_rfl
theorem qyZ:gG 208 s_z208:=sQ (E:=qqB) (c:=qFD) rfl (fC qol fN) func208 fun avs r h=>by
 unfold s_z208 at h;split at h
 ·obtain⟨hp,rfl⟩:=yj h;exact eX (qIJ _ _ hp) fun n=>qSa n _ _ _
 ·cases h
def qSb:EnvP:=⟨⟨tiOf tis,fnsOf [(167,s_z167),(206,s_z206),(208,s_z208),(210,s_z210)],cnsOf [],[],38,(fun _=>none),(fun _=>none),some [4]⟩,fun _=>none,fun _=>none,(fun x=>if x=500007 then [5] else []),fun _=>none,fun _=>none,fun _=>none,fun _=>none⟩
def qWl:Code:=cO f172
def qWm:Array ResultVar:=f172.results
theorem qSc (n:Nat) (s0:LU) (o0:Lab) (cutset1:LU) (o1:Lab):evFnP qSb n qWl qWm [db s0 o0,df cutset1 o1]=qBG n s0 cutset1:=by
 kernel_rfl
theorem qza:gG 172 s_z172:=sG (E:=qSb) (fun w S hg=>⟨⟨(qF (qok w S hg) (qF (qyX w S hg) (qF (qyZ w S hg) (qF (qyK w S hg) qaE)))),fun f sp h=>qaD f sp h w S⟩,qaO w S hg,(fun _ _ h=>by cases h),(fun f sp h=>qbt f sp h),(fun f it h=>qbu f it h),(fun t kt vt h=>qaR t kt vt h)⟩) func172 fun avs r h=>by
 unfold s_z172 at h;split at h
 ·obtain⟨hp,rfl⟩:=yj h;exact eX (qKd _ _ hp) fun n=>qSc n _ _ _ _
 ·cases h
theorem qzb:gG 215 s_z215:=sY [(194,s_z194)] 21 (some [4]) (fC qom fN) func215 fun avs r h=>by
 unfold s_z215 at h;split at h
 ·obtain⟨hp,rfl⟩:=yj h;exact eX (qIP _ _ hp)
 ·cases h
theorem qzc:gG 173 s_z173:=sY [(215,s_z215)] 18 (some [4,5]) (fC qzb fN) func173 fun avs r h=>by
 unfold s_z173 at h;split at h
 ·obtain⟨hp,rfl⟩:=yj h;exact eX (qIW _ _ hp)
 ·cases h
theorem qzd:gG 111 s_z111:=sY [(172,s_z172),(173,s_z173)] 11 (some [2,3]) (fC qza (fC qzc fN)) func111 fun avs r h=>by
 unfold s_z111 at h;split at h
 ·obtain⟨hp,rfl⟩:=yj h;exact eX (qKf _ hp)
 ·cases h
theorem qze:gG 228 s_z228:=sZ [] 46 (some [2]) nC (fun x=>if x=0 then some [3] else none) nP fN func228 fun avs r h=>by
 unfold s_z228 at h;split at h <;> cases h
 exact eX (qIj _)
theorem qzf:gG 236 s_z236:=sY [(164,s_z164)] 8 (some [4]) (fC qoi fN) func236 fun avs r h=>by
 unfold s_z236 at h;split at h <;> cases h
 exact eX (qIk _ _)
theorem qon:gG 216 s_z216:=sY [(236,s_z236)] 8 (some [4]) (fC qzf fN) func216 fun avs r h=>by
 unfold s_z216 at h;split at h <;> cases h
 exact eX (qIl _ _)
theorem qzg:gG 229 s_z229:=sY [(216,s_z216)] 9 (some [4]) (fC qon fN) func229 fun avs r h=>by
 unfold s_z229 at h;split at h <;> cases h
 exact eX (qIm _ _)
theorem qzh:gG 198 s_z198:=sY [(228,s_z228),(229,s_z229)] 35 (some [2]) (fC qze (fC qzg fN)) func198 fun avs r h=>by
 unfold s_z198 at h;split at h <;> cases h
 exact eX (qIn _)
theorem qoo:gG 144 s_z144:=sY [(198,s_z198)] 10 (some [4]) (fC qzh fN) func144 fun avs r h=>by
 unfold s_z144 at h;split at h <;> cases h
 exact eX (qIo _ _)
theorem qzi:gG 154 s_z154:=sY [] 12 (some [2]) fN func154 fun avs r h=>by
 unfold s_z154 at h;split at h <;> cases h
 exact eX (qIK _)
theorem qzj:gG 230 s_z230:=sZ [(144,s_z144),(154,s_z154)] 23 (some [2,3]) nC (fun x=>if x=0 then some [] else none) nP (fC qoo (fC qzi fN)) func230 fun avs r h=>by
 unfold s_z230 at h;split at h <;> cases h
 exact eX (qIM _)
theorem qzk:gG 199 s_z199:=sY [(230,s_z230)] 31 (some [4,5]) (fC qzj fN) func199 fun avs r h=>by
 unfold s_z199 at h;split at h <;> cases h
 exact eX (qIN _ _)
end
end
end Go.Av
