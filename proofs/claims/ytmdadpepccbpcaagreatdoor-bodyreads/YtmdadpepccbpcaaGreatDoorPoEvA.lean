import Derived.Test.YtmdadpepccbpcaaGreatDoorPoQ
import Derived.Test.YtmdadpepccbpcaaGreatDoorPoD
import Derived.Test.YtmdadpepccbpcaaGreatDoorAvE
import Derived.Test.YtmdadpepccbpcaaGreatDoorProg
import Derived.KernelRfl
namespace Go.Av
set_option linter.unusedSimpArgs false
set_option linter.unusedVariables false
section
noncomputable section
open Go.Proofs Go.Proofs.Tryz
set_option maxRecDepth 100000
set_option linter.unusedVariables false
variable {E:EnvP} {f:FuncId} {fn:Func} {c:Code} {spec:List AV→Bool×AV}
def tis:List (TypeId×TI):=[(2,⟨some (.int .i64),8,0⟩),
 (3,⟨some (.int .i64),8,0⟩),
 (4,⟨some .bool,1,0⟩),
 (5,⟨some .byte,1,0⟩),
 (6,⟨some .byte,1,0⟩),
 (7,⟨some (.pair (.int .i64) (.pair (.int .i64) (.pair .bool (.pair .byte .unit)))),24,0⟩),
 (8,⟨some (.pair (.int .i64) (.pair (.int .i64) (.pair .bool (.pair .byte .unit)))),24,0⟩),
 (9,⟨some .str,16,0⟩),
 (10,⟨some .str,16,0⟩),
 (11,⟨some .str,16,0⟩),
 (12,⟨some (.int .u64),8,0⟩),
 (13,⟨some (.pair .str (.pair (.int .u64) .unit)),24,0⟩),
 (14,⟨some (.pair .str (.pair (.int .u64) .unit)),24,0⟩),
 (21,⟨some (.int .i32),4,0⟩),
 (22,⟨some (.sl (.int .i32)),24,21⟩),
 (24,⟨some (.sl .byte),24,5⟩),
 (25,⟨some (.int .i64),8,0⟩),
 (34,⟨some (.pair (.int .i64) (.pair (.int .i64) .unit)),16,0⟩),
 (35,⟨some (.pair (.int .i64) (.pair (.int .i64) .unit)),16,0⟩),
 (46,⟨some (.arr 2 (.sl .byte)),48,24⟩),
 (81,⟨some (.sl (.sl .byte)),24,24⟩),
 (90,⟨some (.sl (.int .i64)),24,3⟩),
 (101,⟨some (.sl .str),24,9⟩),
 (107,⟨some (.int .u64),8,0⟩),
 (117,⟨some (.pair (.sl .byte) (.pair (.int .i64) .unit)),32,0⟩),
 (118,⟨some (.pair (.sl .byte) (.pair (.int .i64) .unit)),32,0⟩),
 (137,⟨some (.int .u32),4,0⟩),
 (139,⟨some (.int .u64),8,0⟩),
 (143,⟨some (.arr 256 .bool),256,4⟩),
 (144,⟨some (.arr 256 .bool),256,4⟩),
 (151,⟨some (.pair .byte (.pair (.int .i32) .unit)),8,0⟩),
 (152,⟨some (.pair .byte (.pair (.int .i32) .unit)),8,0⟩),
 (153,⟨some (.arr 8 (.pair .byte (.pair (.int .i32) .unit))),64,152⟩),
 (167,⟨some (.arr 32 .byte),32,5⟩),
 (168,⟨some (.arr 64 .byte),64,5⟩),
 (169,⟨some (.arr 4 .byte),4,5⟩),
 (170,⟨some (.arr 32 (.int .i32)),128,21⟩),
 (184,⟨some (.arr 256 .byte),256,5⟩),
 (185,⟨some (.pair .byte (.pair .byte .unit)),2,0⟩),
 (186,⟨some (.pair .byte (.pair .byte .unit)),2,0⟩),
 (187,⟨some (.arr 16 (.pair .byte (.pair .byte .unit))),32,186⟩),
 (199,⟨some .byte,1,0⟩),
 (200,⟨some .byte,1,0⟩),
 (203,⟨some (.int .i32),4,0⟩),
 (204,⟨some (.int .i32),4,0⟩)]
theorem qT:(tis.all fun p=>tyB prog (tiOf tis) p.1)=true:=by kernel_rfl
theorem follows:prog.follows .mixedOrders=true:=by kernel_rfl
abbrev nB:Bool×AV:=(false,.bad)
abbrev Sp:=List AV→Bool×AV
abbrev KT:=Ex→Fr→OA
abbrev FnL:=List (FuncId×(List AV→Bool×AV))
abbrev CutL:=Nat→Option (List Nat)
def eQ (l:FnL) (nt:Nat) (r:Option (List Nat)) (a b:CutL) (p:Nat→Option PSh):EnvP:=⟨⟨tiOf tis,fnsOf l,cnsOf [],[],nt,a,b,r⟩,p,fun _=>none,fun _=>[],fun _=>none,fun _=>none,fun _=>none,fun _=>none⟩
def cO (f:Func):Code:=f.body.getD .skip
def nC:CutL:=fun _=>none
def nP:Nat→Option PSh:=fun _=>none
theorem sQ {l:FnL} {nt:Nat} {r:Option (List Nat)} {a b:CutL} {p:Nat→Option PSh} (hE:E=eQ l nt r a b p) (hl:∀ w S,G w S→∀ f,qaU prog f (fnsOf l f) w S)
 (hf:prog.funcs[f]? = some fn) (hspec:∀ avs r',spec avs=(true,r')→∃ n v,evFnP E n c fn.results avs=some v∧(v=r'∨v.strip=r')) (hb:fn.body=some c:=by kernel_rfl) (hnt:fn.ntmps=nt:=by kernel_rfl) (hname:(fn.name == "runtime.NumGoroutine")=false:=by kernel_rfl):qfW G prog f spec:=by
 subst hE;exact qdm G_stays (E:=eQ l nt r a b p) (qb rfl qT) (fun w S hg=>⟨⟨hl w S hg,fun f sp h=>qq f sp h w S⟩,qt w S hg,(fun _ _ h=>by cases h),(fun f sp h=>qv f sp h),(fun f it h=>qw f it h),(fun t kt vt h=>qu t kt vt h)⟩) follows hf hb hnt hname hspec
theorem sZ (l:FnL) (nt:Nat) (r:Option (List Nat)) (a b:CutL) (p:Nat→Option PSh) (hl:∀ w S,G w S→∀ f,qaU prog f (fnsOf l f) w S)
 (hf:prog.funcs[f]? = some fn) (hspec:∀ avs r',spec avs=(true,r')→∃ n v,evFnP (eQ l nt r a b p) n (cO fn) fn.results avs=some v∧(v=r'∨v.strip=r')) (hb:fn.body=some (cO fn):=by kernel_rfl) (hnt:fn.ntmps=nt:=by kernel_rfl) (hname:(fn.name == "runtime.NumGoroutine")=false:=by kernel_rfl):qfW G prog f spec :=
 sQ (E:=eQ l nt r a b p) (c:=cO fn) rfl hl hf hspec hb hnt hname
theorem eX {rs:Array ResultVar} {av:List AV} {r:AV} {g:Nat→OA} (hm:∃ n,g n=some r) (hv:∀ n,evFnP E n c rs av=g n:=by intro _;kernel_rfl):∃ n v,evFnP E n c rs av=some v∧(v=r∨v.strip=r):=by
 obtain⟨n,hn⟩:=hm;exact⟨n,_,(hv n).trans hn,.inl rfl⟩
theorem fC {sp:List AV→Bool×AV} {l:FnL} (h:qfW G prog f sp) (hl:∀ w S,G w S→∀ g,qaU prog g (fnsOf l g) w S):∀ w S,G w S→∀ g,qaU prog g (fnsOf ((f,sp) :: l) g) w S:=fun w S hg=>qc (h w S hg) (hl w S hg)
theorem fN:∀ w S,G w S→∀ g,qaU prog g (fnsOf [] g) w S:=fun _ _ _=>qr
theorem sG (hF:∀ w S,G w S→EnvOk prog E w S) (hf:prog.funcs[f]? = some fn) (hspec:∀ avs r',spec avs=(true,r')→∃ n v,evFnP E n (cO fn) fn.results avs=some v∧(v=r'∨v.strip=r')) (hT:E.ti=tiOf tis:=by kernel_rfl) (hb:fn.body=some (cO fn):=by kernel_rfl) (hnt:fn.ntmps=E.nt:=by kernel_rfl) (hname:(fn.name == "runtime.NumGoroutine")=false:=by kernel_rfl):qfW G prog f spec :=
 qdm G_stays (qb hT qT) hF follows hf hb hnt hname hspec
theorem sM (hF:∀ w S,G w S→EnvOk prog E w S) (hf:prog.funcs[f]? = some fn) (hspec:∀ avs r,spec avs=(true,r)→∃ n,evFnM E n (cO fn) fn.results avs=some r) (hT:E.ti=tiOf tis:=by kernel_rfl) (hb:fn.body=some (cO fn):=by kernel_rfl) (hnt:fn.ntmps=E.nt:=by kernel_rfl) (hname:(fn.name == "runtime.NumGoroutine")=false:=by kernel_rfl):qjM G prog f spec :=
 qeB G_stays (qb hT qT) hF follows hf hb hnt hname hspec
theorem sY (l:FnL) (nt:Nat) (r:Option (List Nat)) (hl:∀ w S,G w S→∀ f,qaU prog f (fnsOf l f) w S)
 (hf:prog.funcs[f]? = some fn) (hspec:∀ avs r',spec avs=(true,r')→∃ n v,evFnP (eQ l nt r nC nC nP) n (cO fn) fn.results avs=some v∧(v=r'∨v.strip=r')) (hb:fn.body=some (cO fn):=by kernel_rfl) (hnt:fn.ntmps=nt:=by kernel_rfl) (hname:(fn.name == "runtime.NumGoroutine")=false:=by kernel_rfl):qfW G prog f spec :=
 sZ l nt r nC nC nP hl hf hspec hb hnt hname
abbrev gG (f:FuncId) (s:List AV→Bool×AV):=qfW G prog f s
def s_z164:Sp
 | [df a0 _,dn a1 _]=>(true,(de (z164 a0 a1) none))
 | _=>nB
def s_z141:Sp
 | [db a0 _,dn a1 _]=>(true,(de (z141 a0 a1) none))
 | _=>nB
def s_z80:Sp
 | [db a0 _,dn a1 _]=>(true,(de (z80 a0 a1) none))
 | _=>nB
def s_z169:Sp
 | [db a0 _]=>(qnf a0,(.tup [(di ((z169 a0).1) none),(de ((z169 a0).2) none)]))
 | _=>nB
def s_z165:Sp
 | [db a0 _,di a1 _]=>(qwD a0 a1,(de (z165 a0 a1) none))
 | _=>nB
def s_z166:Sp
 | [de a0 _]=>(true,(dh (z166 a0) none))
 | _=>nB
def s_z167:Sp
 | [df a0 _]=>(qco a0,(.tup [(.dat (.arr 256 .bool) ((z167 a0).1) none),(dh ((z167 a0).2) none)]))
 | _=>nB
def s_z168:Sp
 | [.adr (.arr 256 .bool) a0,dn a1 _]=>(true,(dh (z168 a0 a1) none))
 | _=>nB
def s_z109:Sp
 | [db a0 _,df a1 _]=>(qet a0 a1,(de (z109 a0 a1) none))
 | _=>nB
def s_z194:Sp
 | [db a0 _,db a1 _]=>(true,(dh (z194 a0 a1) none))
 | _=>nB
def s_z171:Sp
 | [db a0 _,db a1 _]=>(true,(dh (z171 a0 a1) none))
 | _=>nB
def s_z110:Sp
 | [db a0 _]=>(true,(de (z110 a0) none))
 | _=>nB
def s_z108:Sp
 | [.abs s V x,.pbox (.leaf (.sl .byte)) b0 none]=>((z108 (fun x a0 a1=>V.spec x [⟨(.sl .byte),a0⟩,⟨(.sl .byte),a1⟩]) x b0).1,.tup [.tup [],.abs s V (z108 (fun x a0 a1=>V.spec x [⟨(.sl .byte),a0⟩,⟨(.sl .byte),a1⟩]) x b0).2.1,.pbox (.leaf (.sl .byte)) ((z108 (fun x a0 a1=>V.spec x [⟨(.sl .byte),a0⟩,⟨(.sl .byte),a1⟩]) x b0).2.2) none])
 | _=>nB
def qHE:Iter:=⟨[.leaf (.sl .byte)],fun s spec x y=>((z108 (fun x a0 a1=>spec x [⟨(.sl .byte),a0⟩,⟨(.sl .byte),a1⟩]) x y.1).1,(z108 (fun x a0 a1=>spec x [⟨(.sl .byte),a0⟩,⟨(.sl .byte),a1⟩]) x y.1).2.1)⟩
def s_z52:Sp
 | [db a0 _]=>(true,(.abs (qds [.leaf (.sl .byte)]) (clInv 108 [.leaf (.sl .byte)]) (a0,())))
 | _=>nB
def s_z206:Sp
 | [db a0 _,dn a1 _]=>(qrW a0 a1,(db (z206 a0 a1) none))
 | _=>nB
def s_z208:Sp
 | [db a0 _,.adr (.arr 256 .bool) a1]=>(qhg a0 a1,(db (z208 a0 a1) none))
 | _=>nB
def s_z210:Sp
 | [db a0 _,df a1 _]=>(qnh a0 a1,(db (z210 a0 a1) none))
 | _=>nB
def s_z172:Sp
 | [db a0 _,df a1 _]=>(qkp a0 a1,(db (z172 a0 a1) none))
 | _=>nB
def s_z215:Sp
 | [db a0 _,db a1 _]=>(qkj a0 a1,(dh (z215 a0 a1) none))
 | _=>nB
def s_z173:Sp
 | [db a0 _,db a1 _]=>(qrX a0 a1,(.tup [(db ((z173 a0 a1).1) none),(dh ((z173 a0 a1).2) none)]))
 | _=>nB
def s_z111:Sp
 | [db a0 _]=>(qsB a0,(.tup [(db ((z111 a0).1) none),(dh ((z111 a0).2) none)]))
 | _=>nB
def s_z228:Sp
 | [dn a0 _]=>(true,(de (z228 a0) none))
 | _=>nB
def s_z236:Sp
 | [df a0 _,dn a1 _]=>(true,(de (z236 a0 a1) none))
 | _=>nB
def s_z216:Sp
 | [df a0 _,dn a1 _]=>(true,(de (z216 a0 a1) none))
 | _=>nB
def s_z229:Sp
 | [df a0 _,dn a1 _]=>(true,(dh (z229 a0 a1) none))
 | _=>nB
def s_z198:Sp
 | [dn a0 _]=>(true,(de (z198 a0) none))
 | _=>nB
def s_z144:Sp
 | [dn a0 _,de a1 _]=>(true,(dh (z144 a0 a1) none))
 | _=>nB
def s_z154:Sp
 | [dn a0 _]=>(true,(dn (z154 a0) none))
 | _=>nB
def s_z230:Sp
 | [dn a0 _]=>(true,(.tup [(de ((z230 a0).1) none),(dh ((z230 a0).2) none)]))
 | _=>nB
def s_z199:Sp
 | [dn a0 _,dn a1 _]=>(true,(.tup [(dn ((z199 a0 a1).1) none),(dh ((z199 a0 a1).2) none)]))
 | _=>nB
def s_z145:Sp
 | [db a0 _,de a1 _,dn a2 _]=>(qkh a0 a1 a2,(.tup [(dn ((z145 a0 a1 a2).1) none),(dh ((z145 a0 a1 a2).2) none)]))
 | _=>nB
def s_z112:Sp
 | [db a0 _]=>(qsC a0,(.tup [(db ((z112 a0).1) none),(de ((z112 a0).2) none)]))
 | _=>nB
def s_z53:Sp
 | [db a0 _]=>(qFk a0,(.tup [(db ((z53 a0).1) none),(dh ((z53 a0).2) none)]))
 | _=>nB
def s_z27:Sp
 | [db a0 _]=>(qFl a0,(db (z27 a0) none))
 | _=>nB
def s_z175:Sp
 | [dn a0 _]=>(true,(.tup [(de ((z175 a0).1) none),(dh ((z175 a0).2) none)]))
 | _=>nB
def s_z174:Sp
 | [.abs s V x,.pbox (.leaf (.sl .byte)) b0 none]=>((z174 (fun x a0 a1=>V.spec x [⟨.byte,a0⟩,⟨(.int .i64),a1⟩]) x b0).1,.tup [.tup [],.abs s V (z174 (fun x a0 a1=>V.spec x [⟨.byte,a0⟩,⟨(.int .i64),a1⟩]) x b0).2.1,.pbox (.leaf (.sl .byte)) ((z174 (fun x a0 a1=>V.spec x [⟨.byte,a0⟩,⟨(.int .i64),a1⟩]) x b0).2.2) none])
 | _=>nB
def qHF:Iter:=⟨[.leaf (.sl .byte)],fun s spec x y=>((z174 (fun x a0 a1=>spec x [⟨.byte,a0⟩,⟨(.int .i64),a1⟩]) x y.1).1,(z174 (fun x a0 a1=>spec x [⟨.byte,a0⟩,⟨(.int .i64),a1⟩]) x y.1).2.1)⟩
def s_z113:Sp
 | [db a0 _]=>(true,(.abs (qds [.leaf (.sl .byte)]) (clInv 174 [.leaf (.sl .byte)]) (a0,())))
 | _=>nB
def s_z54:Sp
 | [db a0 _]=>(qCy a0,(.tup [(db ((z54 a0).1) none),(de ((z54 a0).2) none)]))
 | _=>nB
def s_z28:Sp
 | [db a0 _]=>(qCz a0,(db (z28 a0) none))
 | _=>nB
def s_z59:Sp
 | [db a0 _]=>(quh a0,(.dat (.sl (.int .i32)) (z59 a0) (some (2,21))))
 | _=>nB
def s_z114:Sp
 | [di a0 _]=>(true,(di (z114 a0) none))
 | _=>nB
def s_z55:Sp
 | [db a0 _]=>(qCt a0,(.dat (.sl (.int .i32)) (z55 a0) (some (2,21))))
 | _=>nB
def s_z176:Sp
 | []=>(true,(.dat (.arr 8 (.pair .byte (.pair (.int .i32) .unit))) z176 none))
 | _=>nB
def s_z115:Sp
 | [dn a0 _]=>(true,(di (z115 a0) none))
 | _=>nB
def s_z56:Sp
 | [db a0 _]=>(qCr a0,(.dat (.sl (.int .i32)) (z56 a0) (some (2,21))))
 | _=>nB
def s_z177:Sp
 | []=>(true,(.dat (.sl (.int .i32)) z177 none))
 | _=>nB
def s_z116:Sp
 | [dn a0 _]=>(true,(di (z116 a0) none))
 | _=>nB
def s_z57:Sp
 | [db a0 _]=>(qCs a0,(.dat (.sl (.int .i32)) (z57 a0) (some (2,21))))
 | _=>nB
def s_z118:Sp
 | [di a0 _,de a1 _,.pbox (.osl 21 (.int .i32)) a2 none]=>((qrU a0 a1 a2),.tup [(.tup []),.bad,.bad,(.pbox (.osl 21 (.int .i32)) (z118 a0 a1 a2) none)])
 | _=>nB
def s_z185:Sp
 | [de a0 _]=>(true,(dn (z185 a0) none))
 | _=>nB
def s_z218:Sp
 | [dn a0 _]=>(true,(de (z218 a0) none))
 | _=>nB
def s_z237:Sp
 | [dn a0 _]=>(true,(dh (z237 a0) none))
 | _=>nB
def s_z238:Sp
 | [dn a0 _,dn a1 _]=>(true,(dh (z238 a0 a1) none))
 | _=>nB
def s_z217:Sp
 | [db a0 _]=>(qki a0,(de (z217 a0) none))
 | _=>nB
def s_z178:Sp
 | [db a0 _]=>(qrN a0,(.tup [(di ((z178 a0).1) none),(de ((z178 a0).2.1) none),(de ((z178 a0).2.2) none)]))
 | _=>nB
def s_z117:Sp
 | [db a0 _,.fn 118 [.pbox (.osl 21 (.int .i32)) a1 none]]=>((qcB a0 a1),.tup [(.tup []),.bad,(.pbox (.osl 21 (.int .i32)) (qwC a0 a1) none)])
 | _=>nB
def s_z58:Sp
 | [db a0 _]=>(qCq a0,(.dat (.sl (.int .i32)) (z58 a0) none))
 | _=>nB
def s_z29:Sp
 | [de a0 _,db a1 _]=>(qnc a0 a1,(.dat (.sl (.int .i32)) (z29 a0 a1) none))
 | _=>nB
def s_z12:Sp
 | [de a0 _,de a1 _,db a2 _]=>(qqq a0 a1 a2,(.dat (.sl (.int .i32)) (z12 a0 a1 a2) none))
 | _=>nB
def s_z78:Sp
 | [dn a0 _]=>(true,(dh (z78 a0) none))
 | _=>nB
def s_z143:Sp
 | [db a0 _,db a1 _]=>(qiM a0 a1,(de (z143 a0 a1) none))
 | _=>nB
def s_z192:Sp
 | [db a0 _]=>(qHB a0,(de (z192 a0) none))
 | _=>nB
def s_z193:Sp
 | [db a0 _,dn a1 _]=>(true,(de (z193 a0 a1) none))
 | _=>nB
def s_z139:Sp
 | [db a0 _,db a1 _]=>(qfz a0 a1,(de (z139 a0 a1) none))
 | _=>nB
def s_z140:Sp
 | [dn a0 _,.pbox (.leaf (.sl .byte)) a1 none]=>((qko a0 a1),.tup [(de ((z140 a0 a1).1) none),.bad,(.pbox (.leaf (.sl .byte)) ((z140 a0 a1).2) none)])
 | _=>nB
def s_z79:Sp
 | [db a0 _]=>(qEU a0,(de (z79 a0) none))
 | _=>nB
def s_z82:Sp
 | [db a0 _,db a1 _]=>(qjS a0 a1,(.tup [(db ((z82 a0 a1).1) none),(db ((z82 a0 a1).2.1) none),(dh ((z82 a0 a1).2.2) none)]))
 | _=>nB
def s_z153:Sp
 | [db a0 _]=>(qeu a0,(db (z153 a0) (some (0,5))))
 | _=>nB
def s_z142:Sp
 | [db a0 _]=>(qsw a0,(.dat (.sl (.sl .byte)) (z142 a0) (some (2,24))))
 | _=>nB
def s_z81:Sp
 | [db a0 _]=>(qEW a0,(de (z81 a0) none))
 | _=>nB
def s_z37:Sp
 | [db a0 _,de a1 _]=>(quB a0 a1,(de (z37 a0 a1) none))
 | _=>nB
def s_z222:Sp
 | [de a0 _]=>(true,(dn (z222 a0) none))
 | _=>nB
def s_z182:Sp
 | [db a0 _]=>(qHA a0,(db (z182 a0) (some (2,5))))
 | _=>nB
def s_z123:Sp
 | [db a0 _]=>(qNC a0,(db (z123 a0) none))
 | _=>nB
abbrev s_z67:Sp:=vac
theorem qCT:gG 67 s_z67:=vacG
abbrev s_z68:Sp:=vac
theorem qCU:gG 68 s_z68:=vacG
abbrev s_z69:Sp:=vac
theorem qCV:gG 69 s_z69:=vacG
def s_z163:Sp
 | [.dat (.int .u64) a0 _]=>(qNx a0,(de (z163 a0) none))
 | _=>nB
def s_z11:Sp
 | [.dat (.sl (.int .i32)) a0 _,.dat (.sl (.int .i32)) a1 _]=>(qul a0 a1,(dh (z11 a0 a1) none))
 | _=>nB
def s_z7:Sp
 | []=>(true,(dg z7))
 | _=>nB
def s_z200:Sp
 | [db a0 _,df a1 _]=>(qng a0 a1,(dh (z200 a0 a1) none))
 | _=>nB
def s_z146:Sp
 | [db a0 _]=>(qnb a0,(dh (z146 a0) none))
 | _=>nB
def s_z83:Sp
 | [db a0 _]=>(qzL a0,(dh (z83 a0) none))
 | _=>nB
def s_z38:Sp
 | [db a0 _]=>(qFi a0,(de (z38 a0) none))
 | _=>nB
def s_z147:Sp
 | [db a0 _]=>(qsv a0,(.tup [(db ((z147 a0).1) none),(de ((z147 a0).2) none)]))
 | _=>nB
def s_z231:Sp
 | [db a0 _,db a1 _]=>(qiL a0 a1,(db (z231 a0 a1) none))
 | _=>nB
def s_z201:Sp
 | [db a0 _]=>(qrR a0,(db (z201 a0) none))
 | _=>nB
def s_z148:Sp
 | [db a0 _]=>(qrS a0,(.tup [(db ((z148 a0).1) none),(de ((z148 a0).2) none)]))
 | _=>nB
def s_z84:Sp
 | [db a0 _]=>(qER a0,(.tup [(db ((z84 a0).1) none),(de ((z84 a0).2) none)]))
 | _=>nB
def s_z39:Sp
 | [db a0 _]=>(qES a0,(de (z39 a0) none))
 | _=>nB
def s_z19:Sp
 | [de a0 _,db a1 _]=>(qEZ a0 a1,(de (z19 a0 a1) none))
 | _=>nB
def s_z225:Sp
 | [df a0 _,dn a1 _]=>(qHC a0 a1,(dh (z225 a0 a1) none))
 | _=>nB
def s_z188:Sp
 | [dn a0 _]=>(true,(de (z188 a0) none))
 | _=>nB
def s_z136:Sp
 | [dn a0 _,de a1 _]=>(true,(dh (z136 a0 a1) none))
 | _=>nB
def s_z189:Sp
 | [de a0 _]=>(qcm a0,(dn (z189 a0) none))
 | _=>nB
def s_z202:Sp
 | [dn a0 _]=>(true,(.tup [(de ((z202 a0).1) none),(dh ((z202 a0).2) none)]))
 | _=>nB
def s_z149:Sp
 | [db a0 _,de a1 _,dn a2 _]=>(qiK a0 a1 a2,(.tup [(dn ((z149 a0 a1 a2).1) none),(dh ((z149 a0 a1 a2).2) none)]))
 | _=>nB
def s_z85:Sp
 | [db a0 _]=>(quL a0,(.tup [(db ((z85 a0).1) none),(dh ((z85 a0).2.1) none),(de ((z85 a0).2.2) none)]))
 | _=>nB
def s_z40:Sp
 | [db a0 _]=>(qFm a0,(.tup [(db ((z40 a0).1) none),(de ((z40 a0).2) none)]))
 | _=>nB
def s_z191:Sp
 | [de a0 _]=>(true,(dn (z191 a0) none))
 | _=>nB
def s_z150:Sp
 | [dn a0 _]=>(true,(.tup [(de ((z150 a0).1) none),(dh ((z150 a0).2) none)]))
 | _=>nB
def s_z86:Sp
 | [db a0 _]=>(qCA a0,(.tup [(db ((z86 a0).1) none),(de ((z86 a0).2) none)]))
 | _=>nB
def s_z87:Sp
 | [db a0 _]=>(qui a0,(.tup [(.dat (.sl (.int .i64)) ((z87 a0).1) none),(dh ((z87 a0).2) none)]))
 | _=>nB
def s_z151:Sp
 | [.dat (.sl (.int .i64)) a0 _]=>(qfx a0,(de (z151 a0) none))
 | _=>nB
def s_z88:Sp
 | [.dat (.sl (.int .i64)) a0 _]=>(quj a0,(.tup [(db ((z88 a0).1) none),(dh ((z88 a0).2) none)]))
 | _=>nB
def s_z41:Sp
 | [db a0 _]=>(qCB a0,(.tup [(db ((z41 a0).1) none),(de ((z41 a0).2) none)]))
 | _=>nB
def s_z204:Sp
 | [dn a0 _]=>(true,(de (z204 a0) none))
 | _=>nB
def s_z232:Sp
 | [dn a0 _]=>(true,(.tup [(dn ((z232 a0).1) none),(dn ((z232 a0).2) none)]))
 | _=>nB
def s_z203:Sp
 | [db a0 _]=>(qrO a0,(de (z203 a0) none))
 | _=>nB
def s_z152:Sp
 | [db a0 _]=>(qrP a0,(.tup [(di ((z152 a0).1) none),(de ((z152 a0).2.1) none),(de ((z152 a0).2.2) none)]))
 | _=>nB
def s_z89:Sp
 | [db a0 _]=>(qCu a0,(.tup [(.dat (.sl (.int .i32)) ((z89 a0).1) none),(de ((z89 a0).2.1) none),(de ((z89 a0).2.2) none)]))
 | _=>nB
def s_z90:Sp
 | [dn a0 _]=>(true,(di (z90 a0) none))
 | _=>nB
def s_z91:Sp
 | [dn a0 _]=>(true,(di (z91 a0) none))
 | _=>nB
def s_z42:Sp
 | [de a0 _,db a1 _]=>(qnd a0 a1,(.dat (.sl (.int .i32)) (z42 a0 a1) none))
 | _=>nB
def s_z20:Sp
 | [de a0 _,de a1 _,db a2 _]=>(qqr a0 a1 a2,(.dat (.sl (.int .i32)) (z20 a0 a1 a2) none))
 | _=>nB
def s_z92:Sp
 | [db a0 _]=>(qum a0,(db (z92 a0) (some (2,5))))
 | _=>nB
def s_z205:Sp
 | [db a0 _,dn a1 _]=>(qwF a0 a1,(db (z205 a0 a1) none))
 | _=>nB
def s_z207:Sp
 | [db a0 _,.adr (.arr 256 .bool) a1]=>(qni a0 a1,(db (z207 a0 a1) none))
 | _=>nB
def s_z209:Sp
 | [db a0 _,df a1 _]=>(qwG a0 a1,(db (z209 a0 a1) none))
 | _=>nB
def s_z155:Sp
 | [db a0 _,df a1 _]=>(qkk a0 a1,(db (z155 a0 a1) none))
 | _=>nB
def s_z93:Sp
 | [db a0 _]=>(qnj a0,(db (z93 a0) (some (2,5))))
 | _=>nB
def s_z94:Sp
 | [de a0 _]=>(true,(df (z94 a0) none))
 | _=>nB
def s_z43:Sp
 | [db a0 _]=>(qEX a0,(.tup [(de ((z43 a0).1) none),(de ((z43 a0).2) none)]))
 | _=>nB
def s_z156:Sp
 | [de a0 _]=>(true,(.dat (.sl .str) (z156 a0) (some (2,9))))
 | _=>nB
def s_z95:Sp
 | []=>(true,(.abs (.sl (.pair .str (.int .i64))) (qoX .str (.int .i64)) z95))
 | _=>nB
def s_z96:Sp
 | [db a0 _]=>(qCv a0,(db (z96 a0) (some (2,5))))
 | _=>nB
def s_z44:Sp
 | [db a0 _]=>(qCw a0,(.tup [(de ((z44 a0).1) none),(de ((z44 a0).2) none)]))
 | _=>nB
def s_z21:Sp
 | [db a0 _,db a1 _,db a2 _]=>(quC a0 a1 a2,(.dat (.sl (.int .i32)) (z21 a0 a1 a2) none))
 | _=>nB
def s_z157:Sp
 | [dn a0 _]=>(true,(dn (z157 a0) none))
 | _=>nB
def s_z97:Sp
 | [db a0 _]=>(quk a0,(db (z97 a0) (some (2,5))))
 | _=>nB
def s_z98:Sp
 | [db a0 _]=>(qun a0,(db (z98 a0) none))
 | _=>nB
def s_z99:Sp
 | [de a0 _]=>(true,(df (z99 a0) none))
 | _=>nB
def s_z45:Sp
 | [db a0 _]=>(qEY a0,(.tup [(de ((z45 a0).1) none),(de ((z45 a0).2) none)]))
 | _=>nB
def s_z100:Sp
 | [db a0 _]=>(qrQ a0,(db (z100 a0) none))
 | _=>nB
def s_z101:Sp
 | [de a0 _]=>(true,(.dat (.sl .str) (z101 a0) (some (2,9))))
 | _=>nB
def s_z46:Sp
 | [db a0 _]=>(qCx a0,(.tup [(de ((z46 a0).1) none),(de ((z46 a0).2) none)]))
 | _=>nB
def s_z22:Sp
 | [db a0 _,db a1 _,db a2 _]=>(qzB a0 a1 a2,(.dat (.sl (.int .i32)) (z22 a0 a1 a2) none))
 | _=>nB
def s_z75:Sp
 | [db a0 _]=>(qEV a0,(de (z75 a0) none))
 | _=>nB
def s_z102:Sp
 | [db a0 _]=>(qkl a0,(.tup [(.dat (.sl (.sl .byte)) ((z102 a0).1) none),(dh ((z102 a0).2) none)]))
 | _=>nB
def s_z76:Sp
 | [db a0 _]=>(qCD a0,(.dat (.sl (.sl .byte)) (z76 a0) none))
 | _=>nB
def s_z35:Sp
 | [db a0 _,de a1 _]=>(qzA a0 a1,(de (z35 a0 a1) none))
 | _=>nB
def s_z10:Sp
 | [db a0 _,db a1 _]=>(qwE a0 a1,(dh (z10 a0 a1) none))
 | _=>nB
def s_z137:Sp
 | [db a0 _,dn a1 _,dn a2 _]=>(qna a0 a1 a2,(db (z137 a0 a1 a2) (some (6,5))))
 | _=>nB
def s_z103:Sp
 | [db a0 _]=>(qnP a0,(dh (z103 a0) none))
 | _=>nB
def s_z47:Sp
 | [db a0 _]=>(qFj a0,(de (z47 a0) none))
 | _=>nB
def s_z104:Sp
 | [db a0 _]=>(qrT a0,(.tup [(db ((z104 a0).1) none),(de ((z104 a0).2) none)]))
 | _=>nB
def s_z48:Sp
 | [db a0 _]=>(qET a0,(.tup [(db ((z48 a0).1) none),(de ((z48 a0).2) none)]))
 | _=>nB
def s_z23:Sp
 | [de a0 _,db a1 _]=>(qFa a0 a1,(de (z23 a0 a1) none))
 | _=>nB
def s_z6:Sp
 | [.dat (.pair (.int .i64) (.pair (.int .i64) .unit)) a0 _,db a1 _,.dat (.arr 2 (.sl .byte)) a2 _]=>(true,(dh (z6 a0 a1 a2) none))
 | _=>nB
theorem qnl:gG 164 s_z164:=fun w S hg vals avs r h hS ha=>by
 unfold s_z164 at h;split at h
 ·simp only[yb,true_and] at h;subst h;exact quD func164 (by kernel_rfl) (by kernel_rfl) (by kernel_rfl) (by kernel_rfl) hS ha
 ·cases h
def s_z170 (m0:Int):Sp
 | [df a0 _,df a1 _]=>(qne m0 a0 a1,(de (z170 a0 a1) none))
 | _=>nB
theorem qwT (m0:Int):qfW (Gm m0) prog 170 (s_z170 m0):=fun w S hg vals avs r h hS ha=>by
 unfold s_z170 at h;split at h
 ·obtain⟨hp,rfl⟩:=yj h;simp only[qne,yf,ym] at hp;have hm:w.cell? ⟨0,0,none⟩=some (.int .i64 m0):=by
   cases hg.2 0 (.int .i64) m0 rfl with
   | adr _ _ ad cs h1 h2 =>
    have e:cs=[.int .i64 m0]:=h1;subst e;exact((h2.2 (by simp)).2 0 _ rfl).2
  exact quE func170 (by kernel_rfl) (by kernel_rfl) (by kernel_rfl) (by kernel_rfl) (g:=0) (by kernel_rfl) hm hS ha hp.1.1 hp.1.2 hp.2
 ·cases h
theorem qwU:gG 165 s_z165:=fun w S hg vals avs r h hS ha=>by
 unfold s_z165 at h;split at h
 ·simp only[yb] at h;cases h.1
 ·cases h
theorem qwV:gG 169 s_z169:=fun w S hg vals avs r h hS ha=>by
 unfold s_z169 at h;split at h
 ·obtain⟨hp,rfl⟩:=yj h;obtain⟨m,hm⟩:=hg;exact quF hm.1.1 hS ha (by simpa [qnf] using hp)
 ·cases h
theorem qnm:gG 143 s_z143:=fun w S hg vals avs r h hS ha=>by
 unfold s_z143 at h;split at h
 ·obtain⟨hp,rfl⟩:=yj h;unfold qiM at hp;simp only[yf,ym] at hp;obtain⟨m,hm⟩:=hg;have hc:w.cell? ⟨0,0,none⟩=some (.int .i64 m):=by
   cases hm.2 0 (.int .i64) m rfl with
   | adr _ _ ad cs h1 h2 =>
    have e:cs=[.int .i64 m]:=h1;subst e;exact((h2.2 (by simp)).2 0 _ rfl).2
  exact quG hc hS ha (qd hp.1) (qd hp.2.1) hp.2.2
 ·cases h
theorem qfA:gG 153 s_z153:=fun w S hg vals avs r h hS ha=>by
 unfold s_z153 at h;split at h
 ·obtain⟨hp,rfl⟩:=yj h;exact quH hS ha (qd hp)
 ·cases h
theorem qwW:gG 193 s_z193:=fun w S hg vals avs r h hS ha=>by
 unfold s_z193 at h;split at h
 ·simp only[yb,true_and] at h;subst h;exact quI hS ha
 ·cases h
theorem qwX:gG 192 s_z192:=fun w S hg vals avs r h hS ha=>by
 unfold s_z192 at h;split at h
 ·simp only[yb] at h;cases h.1
 ·cases h
theorem qwY:gG 141 s_z141:=fun w S hg vals avs r h hS ha=>by
 unfold s_z141 at h;split at h
 ·simp only[yb,true_and] at h;subst h;exact quJ hS ha
 ·cases h
theorem qwZ:gG 209 s_z209:=fun w S hg vals avs r h hS ha=>by
 unfold s_z209 at h;split at h
 ·simp only[yb] at h;cases h.1
 ·cases h
theorem qnn:gG 210 s_z210:=fun w S hg vals avs r h hS ha=>by
 unfold s_z210 at h;split at h
 ·simp only[yb] at h;cases h.1
 ·cases h
theorem qxa:gG 163 s_z163:=fun w S hg vals avs r h hS ha=>by
 unfold s_z163 at h;split at h
 ·obtain⟨hp,rfl⟩:=yj h;have hp':=of_decide_eq_true hp;obtain⟨m,hm⟩:=hg;exact quK hm.1.2 hS ha hp'.1 hp'.2
 ·cases h
theorem qsa:gG 80 s_z80:=sY [(141,s_z141)] 8 (some [4]) (fC qwY fN) func80 fun avs r h=>by
 unfold s_z80 at h;split at h <;> cases h
 exact eX (qLZ _ _)
theorem qxb:gG 166 s_z166:=sY [] 5 (some [2]) fN func166 fun avs r h=>by
 unfold s_z166 at h;split at h <;> cases h
 exact eX (qGY _)
def qpt:EnvP:=eQ [] 21 (some [2,3]) (fun x=>if x=2 then some [0,2,4] else none) (fun x=>if x=0 then some [2] else if x=1 then some [0,2,4] else none) nP
def qCW:Code:=cO f167
def qNT:Array ResultVar:=f167.results
noncomputable def qpu (K:KT):=fun as2 ok3=>K .ret (frOf [(2,(.box (.arr 256 .bool) as2)),(3,dg ok3)])
noncomputable def qpv (K:KT):=fun as2=>K (.exit 0) (frOf [(2,(.box (.arr 256 .bool) as2))])
def qJW (n:Nat):KT:=qk 0 (qpt.cutb 0) (kSeq (evCP qpt (evLP qpt n) (sub qCW [1,1])) (kFnP qpt qNT))
def qJX (chars0:LU) (as2:List Bool) (i4:Int):Fr:=frOf [(0,(df chars0 none)),(2,(.box (.arr 256 .bool) as2)),(4,dc i4)]
theorem qxc (K:KT) (n:Nat):(fun chars0 as2 i4=>evLP qpt n (sub qCW [1,0,1,0,0]) K (qJX chars0 as2 i4))=qhj (qpu K) (qpv K) n:=by
 induction n
 kernel_rfl;rename_i n ih;show _=qdT (qpu K) (qpv K) (qhj (qpu K) (qpv K) n) n;rw[← ih];kernel_rfl
theorem qNU (n:Nat) (chars0:LU) (o0:Lab):evFnP qpt n qCW qNT [df chars0 o0]=qzN n chars0:=by
 unfold qzN;rw[(Eq.trans (by kernel_rfl) (qxc (qJW n) n).symm:qhj qiZ (qlC n) n=_)];kernel_rfl
theorem qiO:gG 167 s_z167:=sQ (E:=qpt) (c:=qCW) rfl fN func167 fun avs r h=>by
 unfold s_z167 at h;split at h
 ·obtain⟨hp,rfl⟩:=yj h;exact eX (qFZ _ hp) fun n=>qNU n _ _
 ·cases h
theorem qiP:gG 168 s_z168:=sY [] 10 (some [4]) fN func168 fun avs r h=>by
 unfold s_z168 at h;split at h <;> cases h
 exact eX (qGa _ _)
def qaB (m0:Int):EnvP:=⟨⟨tiOf tis,fnsOf [(164,s_z164),(165,s_z165),(166,s_z166),(167,s_z167),(168,s_z168),(169,s_z169),(170,(s_z170 m0))],cnsOf [],[],129,(fun x=>if x=7 then some [28] else if x=24 then some [7,60,61,62] else if x=32 then some [0,1,12] else if x=48 then some [0,1,11,12,13,121] else none),(fun x=>if x=0 then some [] else if x=1 then some [28] else if x=2 then some [] else if x=3 then some [7,60,61,62] else if x=4 then some [] else if x=5 then some [0,1,11,12] else if x=6 then some [0,1,11,12] else if x=7 then some [0,1,11,12,13,121] else none),some [4]⟩,fun _=>none,glm m0,(fun x=>if x=24 then [7] else []),fun _=>none,fun _=>none,fun _=>none,fun _=>none⟩
def qeJ:Code:=cO f109
def qCX:Array ResultVar:=f109.results
def qJY (m0:Int) (n:Nat):KT:=qk 0 ((qaB m0).cutb 0) (kSeq (evCP (qaB m0) (evLP (qaB m0) n) (sub qeJ [1,1,0,1,0,1,0,1,0,1])) (kSeq (evCP (qaB m0) (evLP (qaB m0) n) (sub qeJ [1,1,0,1,0,1,1])) (kSeq (evCP (qaB m0) (evLP (qaB m0) n) (sub qeJ [1,1,1])) (kFnP (qaB m0) qCX))))
def qJZ (m0:Int) (n:Nat) (K:KT):KT:=qk 6 ((qaB m0).cutb 6) (qk 5 ((qaB m0).cutb 5) (kSeq (evCP (qaB m0) (evLP (qaB m0) n) (sub qeJ [1,1,1,1,1,1,0,1,0,0,1,1])) (kSeq (fun K fr=>evLP (qaB m0) n (sub qeJ [1,1,1,1,1,1,0,1,0,0]) K (cutFP ((qaB m0).cuts 32) fr)) K)))
def qKa (m0:Int) (n:Nat):KT:=qk 2 ((qaB m0).cutb 2) (kSeq (evCP (qaB m0) (evLP (qaB m0) n) (sub qeJ [1,1,1,1,0,1,0,1,1,0,1])) (kSeq (evCP (qaB m0) (evLP (qaB m0) n) (sub qeJ [1,1,1,1,1])) (kFnP (qaB m0) qCX)))
def qKb (m0:Int) (n:Nat):KT:=qk 4 ((qaB m0).cutb 4) (kSeq (evCP (qaB m0) (evLP (qaB m0) n) (sub qeJ [1,1,1,1,1,1,1])) (kFnP (qaB m0) qCX))
def qKc (s0:LU) (chars1:LU) (width11:Int) (i12:Int) (r13:Int) (s121:LU) (s121p:Nat):Fr:=frOf [(0,da s0),(1,(df chars1 none)),(11,dc width11),(12,dc i12),(13,(di r13 none)),(121,(.itr s121 s121p))]
def qKd (as7:List Bool) (s60:LU) (s61:Int) (s62:Int):Fr:=frOf [(7,(.adr (.arr 256 .bool) as7)),(60,da s60),(61,dc s61),(62,dc s62)]
def qpw (s0:LU) (chars1:LU) (width11:Int) (i12:Int):Fr:=frOf [(0,da s0),(1,(df chars1 none)),(11,dc width11),(12,dc i12)]
def qxd (s0:LU) (chars1:LU) (i12:Int):Fr:=frOf [(0,da s0),(1,(df chars1 none)),(12,dc i12)]
theorem qxe (m0:Int) (K:KT) (n:Nat):(fun s28 s28p=>evLP (qaB m0) n (sub qeJ [1,1,0,1,0,1,0,1,0,0,1,0,0]) K (frOf [(28,(.itr s28 s28p))]))=(qhk m0) (fun s4=>K .ret (frOf [(4,dc s4)])) (K (.exit 0) (frOf [])) n:=by
 induction n
 kernel_rfl;rename_i n ih;show _=(qdU m0) (fun s4=>K .ret (frOf [(4,dc s4)])) (K (.exit 0) (frOf [])) ((qhk m0) (fun s4=>K .ret (frOf [(4,dc s4)])) (K (.exit 0) (frOf [])) n) n;rw[← ih];kernel_rfl
theorem quq (m0:Int) (K:KT) (n:Nat):(fun as7 s60 s61 s62=>evLP (qaB m0) n (sub qeJ [1,1,1,1,0,1,0,1,1,0,0,1,0,0]) K (qKd as7 s60 s61 s62))=(qdx m0) (fun s4=>K .ret (frOf [(4,dc s4)])) (K (.exit 2) (frOf [])) n:=by
 induction n
 kernel_rfl;rename_i n ih;show _=(qcD m0) (fun s4=>K .ret (frOf [(4,dc s4)])) (K (.exit 2) (frOf [])) ((qdx m0) (fun s4=>K .ret (frOf [(4,dc s4)])) (K (.exit 2) (frOf [])) n) n;rw[← ih];kernel_rfl
theorem qur (m0:Int) (K:KT) (n:Nat):(fun s0 chars1 width11 i12 r13 s121 s121p=>evLP (qaB m0) n (sub qeJ [1,1,1,1,1,1,0,1,0,0,1,0,0,1,1,1,1,1,0,0]) K (qKc s0 chars1 width11 i12 r13 s121 s121p))=(qcu m0) (fun s4=>K .ret (frOf [(4,dc s4)])) (fun s0 chars1 width11 i12=>K (.exit 6) (qpw s0 chars1 width11 i12)) n:=by
 induction n
 kernel_rfl;rename_i n ih;show _=(qcE m0) (fun s4=>K .ret (frOf [(4,dc s4)])) (fun s0 chars1 width11 i12=>K (.exit 6) (qpw s0 chars1 width11 i12)) ((qcu m0) (fun s4=>K .ret (frOf [(4,dc s4)])) (fun s0 chars1 width11 i12=>K (.exit 6) (qpw s0 chars1 width11 i12)) n) n;rw[← ih];kernel_rfl
theorem qus (m0:Int) (K:KT) (n:Nat):(fun s0 chars1 i12=>evLP (qaB m0) n (sub qeJ [1,1,1,1,1,1,0,1,0,0]) K (qxd s0 chars1 i12))=(qcv m0) (fun s4=>K .ret (frOf [(4,dc s4)])) (K (.exit 4) (frOf [])) n:=by
 induction n
 kernel_rfl;rename_i n ih;funext s0 chars1 i12;show _=(qdy m0) (fun s4=>K .ret (frOf [(4,dc s4)])) (K (.exit 4) (frOf [])) ((qcv m0) (fun s4=>K .ret (frOf [(4,dc s4)])) (K (.exit 4) (frOf [])) n) n s0 chars1 i12;rw[← ih];unfold qdy qB;rw[(Eq.trans (by kernel_rfl) ((qur m0) (qJZ m0 n K) n).symm:(qcu m0) (fun s4=>K .ret (frOf [(4,dc s4)])) ((qfC m0) (fun s4=>K .ret (frOf [(4,dc s4)])) (K (.exit 4) (frOf [])) (fun s0 chars1 i12=>evLP (qaB m0) n (sub qeJ [1,1,1,1,1,1,0,1,0,0]) K (qxd s0 chars1 i12)) n) n=_)];kernel_rfl
theorem qNV (m0:Int) (n:Nat) (s0:LU) (o0:Lab) (chars1:LU) (o1:Lab):evFnP (qaB m0) n qeJ qCX [db s0 o0,df chars1 o1]=(qsE m0) n s0 chars1:=by
 unfold qsE qdz;rw[(Eq.trans (by kernel_rfl) ((qxe m0) (qJY m0 n) n).symm:(qhk m0) qHL ((qsD m0) n) n=_)];rw[(Eq.trans (by kernel_rfl) ((quq m0) (qKa m0 n) n).symm:(qdx m0) qHL ((qja m0) n) n=_)];rw[(Eq.trans (by kernel_rfl) ((qus m0) (qKb m0 n) n).symm:(qcv m0) qHL ((qfD m0) n) n=_)];kernel_rfl
theorem qut (m0:Int):qfW (Gm m0) prog 109 s_z109:=by
 refine qdm (qzD m0) (E:=qaB m0) (fn:=f109) (c:=qeJ) (qb rfl qT) (fun w S hg=>⟨⟨(qc (qnl w S (G_of m0 hg)) (qc (qwU w S (G_of m0 hg)) (qc (qxb w S (G_of m0 hg)) (qc (qiO w S (G_of m0 hg)) (qc (qiP w S (G_of m0 hg)) (qc (qwV w S (G_of m0 hg)) (qc (qwT m0 w S hg) qr))))))),fun f sp h=>qq f sp h w S⟩,hg.2,(fun _ _ h=>by cases h),(fun _ _ h=>by cases h),(fun _ _ h=>by cases h),(fun _ _ _ h=>by cases h)⟩) follows func109 (by kernel_rfl) (by kernel_rfl) (by kernel_rfl) ?_;intro avs r h;unfold s_z109 at h;split at h
 ·obtain⟨hp,rfl⟩:=yj h;exact eX (qHa m0 _ _ hp) fun n=>qNV m0 n _ _ _ _
 ·cases h
theorem qno:gG 109 s_z109:=fun w S hg=>by obtain⟨m,h⟩:=G_to hg;exact qut m w S h
theorem qnp:gG 194 s_z194:=sY [] 10 (some [4]) fN func194 fun avs r h=>by
 unfold s_z194 at h;split at h <;> cases h
 exact eX (qGh _ _)
theorem qxf:gG 171 s_z171:=sY [(194,s_z194)] 18 (some [4]) (fC qnp fN) func171 fun avs r h=>by
 unfold s_z171 at h;split at h <;> cases h
 exact eX (qHk _ _)
theorem qxg:gG 110 s_z110:=sZ [(171,s_z171)] 12 (some [2]) nC (fun x=>if x=0 then some [] else none) nP (fC qxf fN) func110 fun avs r h=>by
 unfold s_z110 at h;split at h <;> cases h
 exact eX (qHn _)
def qxh:EnvP:=eQ [(109,s_z109),(110,s_z110)] 35 (some [35,36]) (fun x=>if x=0 then some [0,1,35,36] else none) (fun x=>if x=0 then some [35,36] else if x=1 then some [0,1,35,36] else none) nP
def qNW:Code:=cO f108
def qNX:Array ResultVar:=f108.results
def qKe (V:Sigma Inv) (x0:Den V.1) (x1:LU):KT:=qk 0 (qxh.cutb 0) (kFnM qxh qNX [.abs V.1 V.2 x0,.pbox (.leaf (.sl .byte)) x1 none])
def qKf (V:Sigma Inv) (xv:Den V.1) (s36:LU):Fr:=frOf [(0,(.padr 35 [])),(1,(.padr 36 [])),(35,(.abs V.1 V.2 xv)),(36,(.pbox (.leaf (.sl .byte)) s36 none))]
def qgr (V:Sigma Inv) (xv:Den V.1) (s36:LU):Fr:=frOf [(35,(.abs V.1 V.2 xv)),(36,(.pbox (.leaf (.sl .byte)) s36 none))]
theorem qxi (V:Sigma Inv) (K:KT) (n:Nat):(fun xv s36=>evLP qxh n (sub qNW [0,0]) K (qKf V xv s36))=(qhl V) (fun xv s36=>K .ret (qgr V xv s36)) (fun xv s36=>K (.exit 0) (qgr V xv s36)) n:=by
 induction n
 kernel_rfl;rename_i n ih;show _=(qhR V) (fun xv s36=>K .ret (qgr V xv s36)) (fun xv s36=>K (.exit 0) (qgr V xv s36)) ((qhl V) (fun xv s36=>K .ret (qgr V xv s36)) (fun xv s36=>K (.exit 0) (qgr V xv s36)) n) n;rw[← ih];kernel_rfl
theorem qNY (V:Sigma Inv) (n:Nat) (x0:Den V.1) (x1:LU):evFnM qxh n qNW qNX [.abs V.1 V.2 x0,.pbox (.leaf (.sl .byte)) x1 none]=(qzQ V) n x0 x1:=by
 unfold qzQ;rw[(Eq.trans (by kernel_rfl) ((qxi V) (qKe V x0 x1) n).symm:(qhl V) (qjc V) ((qsF V) n) n=_)];kernel_rfl
theorem quu:qjM G prog 108 s_z108:=sM (E:=qxh) (fun w S hg=>⟨⟨(qc (qno w S hg) (qc (qxg w S hg) qr)),fun f sp h=>qq f sp h w S⟩,qt w S hg,(fun _ _ h=>by cases h),(fun f sp h=>qv f sp h),(fun f it h=>qw f it h),(fun t kt vt h=>qu t kt vt h)⟩) func108 fun avs r h=>by
 unfold s_z108 at h;split at h
 ·rename_i s V x _;simp only[yb] at h;obtain⟨hp,rfl⟩:=h;obtain⟨n,hn⟩:=qHq ⟨s,V⟩ _ _ hp;exact⟨n,(qNY ⟨s,V⟩ n _ _).trans hn⟩
 ·cases h
theorem qxj:qJu G prog 108 qHE:=qjY quu (enters_of func108 (by kernel_rfl) rfl) (fun s V x x' y h=>by
 obtain⟨h1,h2⟩:=yj h;subst h2;refine⟨_,_,Prod.ext h1 rfl⟩)
def E_z52:EnvP:=eQ [] 4 (none) nC nC (fun x=>if x=1 then some (.leaf (.sl .byte)) else none)
def C_z52:Code:=cO f52
def R_z52:Array ResultVar:=f52.results
theorem qSj (n:Nat) (s0:LU) (o0:Lab):evFnR E_z52 n C_z52 R_z52 [db s0 o0]=qTC n s0:=by
 kernel_rfl
theorem qCY:qCb G prog 52 s_z52:=by
 refine qey G_stays (E:=E_z52) (fn:=f52) (c:=C_z52) (qb rfl qT) (fun w S hg=>⟨⟨qr,fun f sp h=>qq f sp h w S⟩,qt w S hg,(fun _ _ h=>by cases h),(fun f sp h=>qv f sp h),(fun f it h=>qw f it h),(fun t kt vt h=>qu t kt vt h)⟩) follows func52 (by kernel_rfl) (by kernel_rfl) (by kernel_rfl) ?_;intro avs r h;unfold s_z52 at h;split at h
 ·simp only[yb,true_and] at h;subst h;exact⟨0,qSj 0 _ _⟩
 ·cases h
def qpx:EnvP:=eQ [] 24 (some [4]) (fun x=>if x=1 then some [0,1] else none) (fun x=>if x=0 then some [0] else if x=1 then some [0,1] else none) nP
def qCZ:Code:=cO f206
def qNZ:Array ResultVar:=f206.results
noncomputable def qpy (K:KT):=fun s0=>K (.exit 0) (frOf [(0,da s0)])
def qKg (n:Nat):KT:=qk 0 (qpx.cutb 0) (kSeq (evCP qpx (evLP qpx n) (sub qCZ [1,1])) (kFnP qpx qNZ))
def qKh (s0:LU) (c1:UInt8):Fr:=frOf [(0,da s0),(1,dm c1)]
theorem qxk (K:KT) (n:Nat):(fun s0 c1=>evLP qpx n (sub qCZ [1,0,0,0]) K (qKh s0 c1))=qnR (qpy K) n:=by
 induction n
 kernel_rfl;rename_i n ih;show _=qsG (qpy K) (qnR (qpy K) n) n;rw[← ih];kernel_rfl
theorem qOa (n:Nat) (s0:LU) (o0:Lab) (c1:UInt8) (o1:Lab):evFnP qpx n qCZ qNZ [db s0 o0,dn c1 o1]=qzS n s0 c1:=by
 unfold qzS;rw[(Eq.trans (by kernel_rfl) (qxk (qKg n) n).symm:qnR (qsH n) n=_)];kernel_rfl
theorem qnq:gG 206 s_z206:=sQ (E:=qpx) (c:=qCZ) rfl fN func206 fun avs r h=>by
 unfold s_z206 at h;split at h
 ·obtain⟨hp,rfl⟩:=yj h;exact eX (qGc _ _ hp) fun n=>qOa n _ _ _ _
 ·cases h
def qpz:EnvP:=eQ [(168,s_z168)] 23 (some [4]) (fun x=>if x=1 then some [0,1] else none) (fun x=>if x=0 then some [0] else if x=1 then some [0,1] else none) nP
def qDa:Code:=cO f208
def qOb:Array ResultVar:=f208.results
noncomputable def qpA (K:KT):=fun s0=>K (.exit 0) (frOf [(0,da s0)])
def qKi (n:Nat):KT:=qk 0 (qpz.cutb 0) (kSeq (evCP qpz (evLP qpz n) (sub qDa [1,1])) (kFnP qpz qOb))
def qKj (s0:LU) (as1:List Bool):Fr:=frOf [(0,da s0),(1,(.adr (.arr 256 .bool) as1))]
theorem qxl (K:KT) (n:Nat):(fun s0 as1=>evLP qpz n (sub qDa [1,0,0,0]) K (qKj s0 as1))=qjd (qpA K) n:=by
 induction n
 kernel_rfl;rename_i n ih;show _=qhS (qpA K) (qjd (qpA K) n) n;rw[← ih];kernel_rfl
theorem qOc (n:Nat) (s0:LU) (o0:Lab) (as1:List Bool):evFnP qpz n qDa qOb [db s0 o0,.adr (.arr 256 .bool) as1]=qsJ n s0 as1:=by
 unfold qsJ;rw[(Eq.trans (by kernel_rfl) (qxl (qKi n) n).symm:qjd (qsI n) n=_)];kernel_rfl
theorem qnr:gG 208 s_z208:=sQ (E:=qpz) (c:=qDa) rfl (fC qiP fN) func208 fun avs r h=>by
 unfold s_z208 at h;split at h
 ·obtain⟨hp,rfl⟩:=yj h;exact eX (qGd _ _ hp) fun n=>qOc n _ _ _
 ·cases h
end
end
end Go.Av
