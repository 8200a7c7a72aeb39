import Derived.Test.YtmageajchmoomaaGreatDoorCbP
import Derived.Test.YtmageajchmoomaaGreatDoorCbD
import Derived.Test.YtmageajchmoomaaGreatDoorAvE
import Derived.Test.YtmageajchmoomaaGreatDoorProg
import Derived.KernelRfl
namespace Go.Av
set_option linter.unusedSimpArgs false
set_option linter.unusedVariables false
section
noncomputable section
open Go.Proofs Go.Proofs.Tryz
set_option maxRecDepth 100000
set_option linter.unusedVariables false
variable {E:EnvP} {f:FuncId} {fn:Func} {c:Code} {spec:List AV→Bool×AV}
def tis:List (TypeId×TI):=[(2,⟨some (.int .i64),8,0⟩),
 (3,⟨some (.int .i64),8,0⟩),
 (4,⟨some .bool,1,0⟩),
 (5,⟨some .byte,1,0⟩),
 (6,⟨some .byte,1,0⟩),
 (7,⟨some (.pair (.int .i64) (.pair (.int .i64) (.pair .bool (.pair .byte .unit)))),24,0⟩),
 (8,⟨some (.pair (.int .i64) (.pair (.int .i64) (.pair .bool (.pair .byte .unit)))),24,0⟩),
 (9,⟨some .str,16,0⟩),
 (10,⟨some .str,16,0⟩),
 (11,⟨some .str,16,0⟩),
 (12,⟨some (.int .u64),8,0⟩),
 (13,⟨some (.pair .str (.pair (.int .u64) .unit)),24,0⟩),
 (14,⟨some (.pair .str (.pair (.int .u64) .unit)),24,0⟩),
 (21,⟨some (.int .i32),4,0⟩),
 (22,⟨some (.sl .byte),24,5⟩),
 (23,⟨some (.sl (.pair (.sl .byte) (.pair (.sl (.int .i32)) .unit))),24,41⟩),
 (24,⟨some (.pair (.sl .byte) (.pair (.sl .byte) (.pair (.sl (.pair (.sl .byte) (.pair (.sl (.int .i32)) .unit))) .unit))),72,0⟩),
 (25,⟨some (.pair (.sl .byte) (.pair (.sl .byte) (.pair (.sl (.pair (.sl .byte) (.pair (.sl (.int .i32)) .unit))) .unit))),72,0⟩),
 (31,⟨some (.sl (.pair (.sl .byte) (.pair (.sl (.int .i32)) .unit))),24,51⟩),
 (32,⟨some (.pair (.sl .byte) (.pair (.sl .byte) (.pair (.sl (.pair (.sl .byte) (.pair (.sl (.int .i32)) .unit))) .unit))),72,0⟩),
 (33,⟨some (.pair (.sl .byte) (.pair (.sl .byte) (.pair (.sl (.pair (.sl .byte) (.pair (.sl (.int .i32)) .unit))) .unit))),72,0⟩),
 (36,⟨some (.int .i64),8,0⟩),
 (39,⟨some (.sl (.int .i32)),24,21⟩),
 (40,⟨some (.pair (.sl .byte) (.pair (.sl (.int .i32)) .unit)),48,0⟩),
 (41,⟨some (.pair (.sl .byte) (.pair (.sl (.int .i32)) .unit)),48,0⟩),
 (51,⟨some (.pair (.sl .byte) (.pair (.sl (.int .i32)) .unit)),48,0⟩),
 (67,⟨some (.sl (.sl .byte)),24,22⟩),
 (76,⟨some (.sl (.pair (.sl .byte) (.pair (.int .i64) (.pair .bool (.pair (.sl .byte) .unit))))),24,97⟩),
 (91,⟨some (.pair (.int .i64) (.pair (.int .i64) (.pair .bool .unit))),24,0⟩),
 (92,⟨some (.pair (.int .i64) (.pair (.int .i64) (.pair .bool .unit))),24,0⟩),
 (96,⟨some (.pair (.sl .byte) (.pair (.int .i64) (.pair .bool (.pair (.sl .byte) .unit)))),64,0⟩),
 (97,⟨some (.pair (.sl .byte) (.pair (.int .i64) (.pair .bool (.pair (.sl .byte) .unit)))),64,0⟩),
 (98,⟨some (.sl (.int .i64)),24,3⟩),
 (104,⟨some (.sl .str),24,9⟩),
 (136,⟨some (.int .u64),8,0⟩),
 (147,⟨some (.arr 256 .bool),256,4⟩),
 (148,⟨some (.arr 256 .bool),256,4⟩),
 (155,⟨some (.int .u32),4,0⟩),
 (157,⟨some (.int .u64),8,0⟩),
 (173,⟨some (.arr 32 .byte),32,5⟩),
 (174,⟨some (.arr 64 .byte),64,5⟩),
 (176,⟨some (.pair .byte (.pair (.int .i32) .unit)),8,0⟩),
 (177,⟨some (.pair .byte (.pair (.int .i32) .unit)),8,0⟩),
 (178,⟨some (.arr 8 (.pair .byte (.pair (.int .i32) .unit))),64,177⟩),
 (183,⟨some (.arr 32 (.int .i32)),128,21⟩),
 (184,⟨some (.arr 24 .byte),24,5⟩),
 (192,⟨some (.arr 256 .byte),256,5⟩),
 (193,⟨some (.pair .byte (.pair .byte .unit)),2,0⟩),
 (194,⟨some (.pair .byte (.pair .byte .unit)),2,0⟩),
 (195,⟨some (.arr 16 (.pair .byte (.pair .byte .unit))),32,194⟩),
 (197,⟨some (.arr 20 (.int .u64)),160,157⟩),
 (198,⟨some (.arr 65 .byte),65,5⟩),
 (208,⟨some .byte,1,0⟩),
 (209,⟨some .byte,1,0⟩),
 (212,⟨some (.int .i32),4,0⟩),
 (213,⟨some (.int .i32),4,0⟩)]
theorem qcX:(tis.all fun p=>tyB prog (tiOf tis) p.1)=true:=by kernel_rfl
theorem follows:prog.follows .mixedOrders=true:=by kernel_rfl
abbrev nB:Bool×AV:=(false,.bad)
abbrev Sp:=List AV→Bool×AV
abbrev KT:=Ex→Fr→OA
abbrev FnL:=List (FuncId×(List AV→Bool×AV))
abbrev CutL:=Nat→Option (List Nat)
def eQ (l:FnL) (nt:Nat) (r:Option (List Nat)) (a b:CutL) (p:Nat→Option PSh):EnvP:=⟨⟨tiOf tis,fnsOf l,cnsOf [],[],nt,a,b,r⟩,p,fun _=>none,fun _=>[],fun _=>none,fun _=>none,fun _=>none,fun _=>none⟩
def cO (f:Func):Code:=f.body.getD .skip
def nC:CutL:=fun _=>none
def nP:Nat→Option PSh:=fun _=>none
theorem sQ {l:FnL} {nt:Nat} {r:Option (List Nat)} {a b:CutL} {p:Nat→Option PSh} (hE:E=eQ l nt r a b p) (hl:∀ w S,G w S→∀ f,qaT prog f (fnsOf l f) w S)
 (hf:prog.funcs[f]? = some fn) (hspec:∀ avs r',spec avs=(true,r')→∃ n v,evFnP E n c fn.results avs=some v∧(v=r'∨v.strip=r')) (hb:fn.body=some c:=by kernel_rfl) (hnt:fn.ntmps=nt:=by kernel_rfl) (hname:(fn.name == "runtime.NumGoroutine")=false:=by kernel_rfl):qcZ G prog f spec:=by
 subst hE;exact qdf G_stays (E:=eQ l nt r a b p) (qq rfl qcX) (fun w S hg=>⟨⟨hl w S hg,fun f sp h=>qI f sp h w S⟩,qW w S hg,(fun _ _ h=>by cases h),(fun f sp h=>qaj f sp h),(fun f it h=>qak f it h),(fun t kt vt h=>qR t kt vt h)⟩) follows hf hb hnt hname hspec
theorem sZ (l:FnL) (nt:Nat) (r:Option (List Nat)) (a b:CutL) (p:Nat→Option PSh) (hl:∀ w S,G w S→∀ f,qaT prog f (fnsOf l f) w S)
 (hf:prog.funcs[f]? = some fn) (hspec:∀ avs r',spec avs=(true,r')→∃ n v,evFnP (eQ l nt r a b p) n (cO fn) fn.results avs=some v∧(v=r'∨v.strip=r')) (hb:fn.body=some (cO fn):=by kernel_rfl) (hnt:fn.ntmps=nt:=by kernel_rfl) (hname:(fn.name == "runtime.NumGoroutine")=false:=by kernel_rfl):qcZ G prog f spec :=
 sQ (E:=eQ l nt r a b p) (c:=cO fn) rfl hl hf hspec hb hnt hname
theorem eX {rs:Array ResultVar} {av:List AV} {r:AV} {g:Nat→OA} (hm:∃ n,g n=some r) (hv:∀ n,evFnP E n c rs av=g n:=by intro _;kernel_rfl):∃ n v,evFnP E n c rs av=some v∧(v=r∨v.strip=r):=by
 obtain⟨n,hn⟩:=hm;exact⟨n,_,(hv n).trans hn,.inl rfl⟩
theorem fC {sp:List AV→Bool×AV} {l:FnL} (h:qcZ G prog f sp) (hl:∀ w S,G w S→∀ g,qaT prog g (fnsOf l g) w S):∀ w S,G w S→∀ g,qaT prog g (fnsOf ((f,sp) :: l) g) w S:=fun w S hg=>qv (h w S hg) (hl w S hg)
theorem fN:∀ w S,G w S→∀ g,qaT prog g (fnsOf [] g) w S:=fun _ _ _=>qJ
theorem sG (hF:∀ w S,G w S→EnvOk prog E w S) (hf:prog.funcs[f]? = some fn) (hspec:∀ avs r',spec avs=(true,r')→∃ n v,evFnP E n (cO fn) fn.results avs=some v∧(v=r'∨v.strip=r')) (hT:E.ti=tiOf tis:=by kernel_rfl) (hb:fn.body=some (cO fn):=by kernel_rfl) (hnt:fn.ntmps=E.nt:=by kernel_rfl) (hname:(fn.name == "runtime.NumGoroutine")=false:=by kernel_rfl):qcZ G prog f spec :=
 qdf G_stays (qq hT qcX) hF follows hf hb hnt hname hspec
theorem sM (hF:∀ w S,G w S→EnvOk prog E w S) (hf:prog.funcs[f]? = some fn) (hspec:∀ avs r,spec avs=(true,r)→∃ n,evFnM E n (cO fn) fn.results avs=some r) (hT:E.ti=tiOf tis:=by kernel_rfl) (hb:fn.body=some (cO fn):=by kernel_rfl) (hnt:fn.ntmps=E.nt:=by kernel_rfl) (hname:(fn.name == "runtime.NumGoroutine")=false:=by kernel_rfl):qjl G prog f spec :=
 qen G_stays (qq hT qcX) hF follows hf hb hnt hname hspec
theorem sY (l:FnL) (nt:Nat) (r:Option (List Nat)) (hl:∀ w S,G w S→∀ f,qaT prog f (fnsOf l f) w S)
 (hf:prog.funcs[f]? = some fn) (hspec:∀ avs r',spec avs=(true,r')→∃ n v,evFnP (eQ l nt r nC nC nP) n (cO fn) fn.results avs=some v∧(v=r'∨v.strip=r')) (hb:fn.body=some (cO fn):=by kernel_rfl) (hnt:fn.ntmps=nt:=by kernel_rfl) (hname:(fn.name == "runtime.NumGoroutine")=false:=by kernel_rfl):qcZ G prog f spec :=
 sZ l nt r nC nC nP hl hf hspec hb hnt hname
abbrev gG (f:FuncId) (s:List AV→Bool×AV):=qcZ G prog f s
def s_z5:Sp
 | [.dat (.pair (.sl .byte) (.pair (.sl .byte) (.pair (.sl (.pair (.sl .byte) (.pair (.sl (.int .i32)) .unit))) .unit))) a0 _]=>(true,(dh (z5 a0) none))
 | _=>nB
def s_z30:Sp
 | [dn a0 _]=>(true,(dn (z30 a0) none))
 | _=>nB
def s_z33:Sp
 | [db a0 _,de a1 _]=>(true,(de (z33 a0 a1) none))
 | _=>nB
def s_z54:Sp
 | [.pbox (.ppair (.leaf (.int .i64)) (.ppair (.leaf (.int .i64)) (.ppair (.leaf .bool) (.leaf .unit)))) a0 none,dn a1 _]=>((qGn a0 a1),.tup [(dh ((z54 a0 a1).1) none),(.pbox (.ppair (.leaf (.int .i64)) (.ppair (.leaf (.int .i64)) (.ppair (.leaf .bool) (.leaf .unit)))) ((z54 a0 a1).2) none),.bad])
 | _=>nB
def s_z34:Sp
 | [db a0 _]=>(qGo a0,(.tup [(de ((z34 a0).1) none),(de ((z34 a0).2) none)]))
 | _=>nB
def s_z78:Sp
 | [dn a0 _]=>(true,(de (z78 a0) none))
 | _=>nB
def s_z162:Sp
 | [df a0 _,dn a1 _]=>(true,(de (z162 a0 a1) none))
 | _=>nB
def s_z142:Sp
 | [df a0 _,dn a1 _]=>(true,(de (z142 a0 a1) none))
 | _=>nB
def s_z108:Sp
 | [df a0 _,dn a1 _]=>(true,(de (z108 a0 a1) none))
 | _=>nB
def s_z79:Sp
 | [df a0 _,dn a1 _]=>(true,(dh (z79 a0 a1) none))
 | _=>nB
def s_z55:Sp
 | [dn a0 _]=>(true,(de (z55 a0) none))
 | _=>nB
def s_z35:Sp
 | [dn a0 _,de a1 _]=>(true,(dh (z35 a0 a1) none))
 | _=>nB
def s_z22:Sp
 | [db a0 _,de a1 _]=>(qdy a0 a1,(de (z22 a0 a1) none))
 | _=>nB
def s_z24:Sp
 | [db a0 _,de a1 _,dn a2 _]=>(qnW a0 a1 a2,(.tup [(de ((z24 a0 a1 a2).1) none),(dh ((z24 a0 a1 a2).2) none)]))
 | _=>nB
def s_z20:Sp
 | [db a0 _]=>(qaH a0,(db (z20 a0) (some (0,5))))
 | _=>nB
def s_z36:Sp
 | [db a0 _,de a1 _]=>(qjv a0 a1,(.tup [(db ((z36 a0 a1).1) none),(de ((z36 a0 a1).2.1) none),(de ((z36 a0 a1).2.2) none)]))
 | _=>nB
def s_z37:Sp
 | [db a0 _]=>(qeE a0,(db (z37 a0) (some (2,5))))
 | _=>nB
def s_z23:Sp
 | [db a0 _]=>(qFU a0,(.tup [(.dat (.pair (.sl .byte) (.pair (.sl .byte) (.pair (.sl (.pair (.sl .byte) (.pair (.sl (.int .i32)) .unit))) .unit))) ((z23 a0).1) none),(de ((z23 a0).2.1) none),(de ((z23 a0).2.2) none)]))
 | _=>nB
def s_z60:Sp
 | [db a0 _,db a1 _]=>(true,(dh (z60 a0 a1) none))
 | _=>nB
def s_z42:Sp
 | [db a0 _,db a1 _]=>(qAT a0 a1,(dh (z42 a0 a1) none))
 | _=>nB
def s_z56:Sp
 | [.dat (.sl (.pair (.sl .byte) (.pair (.int .i64) (.pair .bool (.pair (.sl .byte) .unit))))) a0 _,db a1 _]=>(quU a0 a1,(.dat (.sl (.int .i64)) (z56 a0 a1) none))
 | _=>nB
def s_z61:Sp
 | [de a0 _]=>(true,(.dat (.sl .str) (z61 a0) (some (2,9))))
 | _=>nB
def s_z44:Sp
 | []=>(true,(.abs (.sl (.pair .str (.int .i64))) (qjm .str (.int .i64)) z44))
 | _=>nB
def s_z90:Sp
 | [db a0 _,dn a1 _]=>(true,(de (z90 a0 a1) none))
 | _=>nB
def s_z62:Sp
 | [db a0 _,dn a1 _]=>(true,(de (z62 a0 a1) none))
 | _=>nB
def s_z120:Sp
 | [db a0 _,dn a1 _]=>(qAP a0 a1,(db (z120 a0 a1) none))
 | _=>nB
def s_z121:Sp
 | [db a0 _,dn a1 _]=>(qAQ a0 a1,(db (z121 a0 a1) none))
 | _=>nB
def s_z122:Sp
 | [df a0 _]=>(qjh a0,(.tup [(.dat (.arr 256 .bool) ((z122 a0).1) none),(dh ((z122 a0).2) none)]))
 | _=>nB
def s_z151:Sp
 | [.adr (.arr 256 .bool) a0,dn a1 _]=>(true,(dh (z151 a0 a1) none))
 | _=>nB
def s_z123:Sp
 | [db a0 _,.adr (.arr 256 .bool) a1]=>(qnU a0 a1,(db (z123 a0 a1) none))
 | _=>nB
def s_z124:Sp
 | [db a0 _,.adr (.arr 256 .bool) a1]=>(qnV a0 a1,(db (z124 a0 a1) none))
 | _=>nB
def s_z125:Sp
 | [db a0 _,df a1 _]=>(qAR a0 a1,(db (z125 a0 a1) none))
 | _=>nB
def s_z126:Sp
 | [db a0 _,df a1 _]=>(qAS a0 a1,(db (z126 a0 a1) none))
 | _=>nB
def s_z91:Sp
 | [db a0 _,df a1 _]=>(quR a0 a1,(db (z91 a0 a1) none))
 | _=>nB
def s_z63:Sp
 | [db a0 _]=>(quS a0,(db (z63 a0) (some (2,5))))
 | _=>nB
def s_z45:Sp
 | [db a0 _]=>(qGg a0,(db (z45 a0) (some (2,5))))
 | _=>nB
def s_z29:Sp
 | [db a0 _]=>(qGi a0,(.tup [(de ((z29 a0).1) none),(de ((z29 a0).2) none)]))
 | _=>nB
def s_z143:Sp
 | [db a0 _,db a1 _]=>(qnT a0 a1,(de (z143 a0 a1) none))
 | _=>nB
def s_z109:Sp
 | [db a0 _,db a1 _]=>(qgY a0 a1,(.tup [(db ((z109 a0 a1).1) none),(db ((z109 a0 a1).2.1) none),(dh ((z109 a0 a1).2.2) none)]))
 | _=>nB
def s_z81:Sp
 | [db a0 _]=>(qGv a0,(.tup [(db ((z81 a0).1) none),(db ((z81 a0).2.1) none),(dh ((z81 a0).2.2) none)]))
 | _=>nB
def s_z82:Sp
 | [db a0 _]=>(qqB a0,(db (z82 a0) (some (0,5))))
 | _=>nB
def s_z145:Sp
 | [dn a0 _,dh a1 _,.pbox (.osl 5 .byte) a2 none]=>((qnX a0 a1 a2),.tup [(.tup []),.bad,.bad,(.pbox (.osl 5 .byte) (z145 a0 a1 a2) none)])
 | _=>nB
def s_z183:Sp
 | [dn a0 _]=>(true,(.tup [(de ((z183 a0).1) none),(dh ((z183 a0).2) none)]))
 | _=>nB
def s_z176:Sp
 | [dn a0 _,dn a1 _]=>(true,(.tup [(dn ((z176 a0 a1).1) none),(dh ((z176 a0 a1).2) none)]))
 | _=>nB
def s_z166:Sp
 | [db a0 _,de a1 _,dn a2 _]=>(qsY a0 a1 a2,(.tup [(dn ((z166 a0 a1 a2).1) none),(dh ((z166 a0 a1 a2).2) none)]))
 | _=>nB
def s_z144:Sp
 | [db a0 _,.fn 145 [.pbox (.osl 5 .byte) a1 none]]=>((qcy a0 a1),.tup [(.tup []),.bad,(.pbox (.osl 5 .byte) (qAU a0 a1) none)])
 | _=>nB
def s_z110:Sp
 | [db a0 _]=>(qtt a0,(db (z110 a0) none))
 | _=>nB
def s_z83:Sp
 | [.dat (.pair (.sl .byte) (.pair (.int .i64) (.pair .bool (.pair (.sl .byte) .unit)))) a0 _]=>(qjw a0,(db (z83 a0) none))
 | _=>nB
def s_z116:Sp
 | [di a0 _,de a1 _,.pbox (.osl 21 (.int .i32)) a2 none]=>((qto a0 a1 a2),.tup [(.tup []),.bad,.bad,(.pbox (.osl 21 (.int .i32)) (z116 a0 a1 a2) none)])
 | _=>nB
def s_z157:Sp
 | [de a0 _]=>(true,(dn (z157 a0) none))
 | _=>nB
def s_z168:Sp
 | [dn a0 _]=>(true,(de (z168 a0) none))
 | _=>nB
def s_z177:Sp
 | [dn a0 _]=>(true,(dh (z177 a0) none))
 | _=>nB
def s_z178:Sp
 | [dn a0 _,dn a1 _]=>(true,(dh (z178 a0 a1) none))
 | _=>nB
def s_z167:Sp
 | [db a0 _]=>(qko a0,(de (z167 a0) none))
 | _=>nB
def s_z149:Sp
 | [db a0 _]=>(qtj a0,(.tup [(di ((z149 a0).1) none),(de ((z149 a0).2.1) none),(de ((z149 a0).2.2) none)]))
 | _=>nB
def s_z115:Sp
 | [db a0 _,.fn 116 [.pbox (.osl 21 (.int .i32)) a1 none]]=>((qcx a0 a1),.tup [(.tup []),.bad,(.pbox (.osl 21 (.int .i32)) (qAO a0 a1) none)])
 | _=>nB
def s_z85:Sp
 | [db a0 _]=>(quQ a0,(.dat (.sl (.int .i32)) (z85 a0) none))
 | _=>nB
def s_z114:Sp
 | [db a0 _]=>(qkp a0,(.dat (.sl (.int .i32)) (z114 a0) (some (2,21))))
 | _=>nB
def s_z146:Sp
 | [di a0 _]=>(true,(di (z146 a0) none))
 | _=>nB
def s_z111:Sp
 | [db a0 _]=>(qtm a0,(.dat (.sl (.int .i32)) (z111 a0) (some (2,21))))
 | _=>nB
def s_z158:Sp
 | []=>(true,(.dat (.arr 8 (.pair .byte (.pair (.int .i32) .unit))) z158 none))
 | _=>nB
def s_z147:Sp
 | [dn a0 _]=>(true,(di (z147 a0) none))
 | _=>nB
def s_z112:Sp
 | [db a0 _]=>(qtk a0,(.dat (.sl (.int .i32)) (z112 a0) (some (2,21))))
 | _=>nB
def s_z159:Sp
 | []=>(true,(.dat (.sl (.int .i32)) z159 none))
 | _=>nB
def s_z148:Sp
 | [dn a0 _]=>(true,(di (z148 a0) none))
 | _=>nB
def s_z113:Sp
 | [db a0 _]=>(qtl a0,(.dat (.sl (.int .i32)) (z113 a0) (some (2,21))))
 | _=>nB
def s_z84:Sp
 | [de a0 _,db a1 _]=>(qGf a0 a1,(.dat (.sl (.int .i32)) (z84 a0 a1) none))
 | _=>nB
def s_z57:Sp
 | [.dat (.sl (.pair (.sl .byte) (.pair (.int .i64) (.pair .bool (.pair (.sl .byte) .unit))))) a0 _]=>(quV a0,(.dat (.sl (.int .i32)) (z57 a0) none))
 | _=>nB
def s_z38:Sp
 | [.dat (.sl (.pair (.sl .byte) (.pair (.int .i64) (.pair .bool (.pair (.sl .byte) .unit))))) a0 _]=>(qqC a0,(.dat (.sl (.pair (.sl .byte) (.pair (.sl (.int .i32)) .unit))) (z38 a0) (some (2,51))))
 | _=>nB
def s_z117:Sp
 | [db a0 _]=>(qkq a0,(.tup [(db ((z117 a0).1) none),(de ((z117 a0).2.1) none),(de ((z117 a0).2.2) none)]))
 | _=>nB
def s_z86:Sp
 | [db a0 _]=>(quT a0,(de (z86 a0) none))
 | _=>nB
def s_z58:Sp
 | [db a0 _]=>(qGq a0,(.dat (.sl (.sl .byte)) (z58 a0) (some (2,22))))
 | _=>nB
def s_z87:Sp
 | [db a0 _,de a1 _]=>(qGp a0 a1,(.tup [(db ((z87 a0 a1).1) none),(de ((z87 a0 a1).2.1) none),(de ((z87 a0 a1).2.2) none)]))
 | _=>nB
def s_z88:Sp
 | [db a0 _]=>(qGs a0,(dh (z88 a0) none))
 | _=>nB
def s_z46:Sp
 | [db a0 _,de a1 _]=>(qGm a0 a1,(de (z46 a0 a1) none))
 | _=>nB
def s_z31:Sp
 | [db a0 _,de a1 _]=>(qju a0 a1,(dh (z31 a0 a1) none))
 | _=>nB
def s_z150:Sp
 | [db a0 _,db a1 _]=>(qtn a0 a1,(dh (z150 a0 a1) none))
 | _=>nB
def s_z118:Sp
 | [db a0 _,db a1 _]=>(qtr a0 a1,(.tup [(db ((z118 a0 a1).1) none),(dh ((z118 a0 a1).2) none)]))
 | _=>nB
def s_z119:Sp
 | [db a0 _]=>(qts a0,(de (z119 a0) none))
 | _=>nB
def s_z89:Sp
 | [db a0 _]=>(qGr a0,(.tup [(db ((z89 a0).1) none),(de ((z89 a0).2.1) none),(dh ((z89 a0).2.2) none)]))
 | _=>nB
def s_z59:Sp
 | [db a0 _]=>(qGt a0,(.tup [(.dat (.pair (.sl .byte) (.pair (.int .i64) (.pair .bool (.pair (.sl .byte) .unit)))) ((z59 a0).1) none),(de ((z59 a0).2) none)]))
 | _=>nB
def s_z39:Sp
 | [db a0 _]=>(qGu a0,(.dat (.sl (.pair (.sl .byte) (.pair (.int .i64) (.pair .bool (.pair (.sl .byte) .unit))))) (z39 a0) (some (2,97))))
 | _=>nB
def s_z25:Sp
 | [db a0 _]=>(quW a0,(.dat (.sl (.pair (.sl .byte) (.pair (.sl (.int .i32)) .unit))) (z25 a0) (some (2,51))))
 | _=>nB
def s_z12:Sp
 | [db a0 _]=>(qqA a0,(.tup [(.dat (.pair (.sl .byte) (.pair (.sl .byte) (.pair (.sl (.pair (.sl .byte) (.pair (.sl (.int .i32)) .unit))) .unit))) ((z12 a0).1) none),(de ((z12 a0).2) none)]))
 | _=>nB
def s_z43:Sp
 | [.dat (.sl (.int .i32)) a0 _]=>(qTh a0,(.dat (.sl (.int .i32)) (z43 a0) none))
 | _=>nB
def s_z6:Sp
 | []=>(true,(dg z6))
 | _=>nB
def s_z7:Sp
 | [db a0 _,db a1 _]=>(z7_ok a0 a1,(dh (z7 a0 a1) none))
 | _=>nB
def s_z17:Sp
 | [dn a0 _]=>(true,(dn (z17 a0) none))
 | _=>nB
def s_z8:Sp
 | [db a0 _]=>(z8_ok a0,(db (z8 a0) (some (2,5))))
 | _=>nB
def s_z10:Sp
 | [.dat (.pair (.sl .byte) (.pair (.sl .byte) (.pair (.sl (.pair (.sl .byte) (.pair (.sl (.int .i32)) .unit))) .unit))) a0 _]=>(qFT a0,(.dat (.pair (.sl .byte) (.pair (.sl .byte) (.pair (.sl (.pair (.sl .byte) (.pair (.sl (.int .i32)) .unit))) .unit))) (z10 a0) none))
 | _=>nB
def s_z19:Sp
 | [db a0 _]=>(qnZ a0,(dh (z19 a0) none))
 | _=>nB
def s_z64:Sp
 | [db a0 _]=>(qGz a0,(dh (z64 a0) none))
 | _=>nB
def s_z95:Sp
 | [di a0 _]=>(true,(dh (z95 a0) none))
 | _=>nB
def s_z155:Sp
 | [di a0 _]=>(true,(dh (z155 a0) none))
 | _=>nB
def s_z129:Sp
 | [di a0 _]=>(true,(dh (z129 a0) none))
 | _=>nB
def s_z128:Sp
 | [di a0 _]=>(true,(dh (z128 a0) none))
 | _=>nB
def s_z127:Sp
 | [.dat (.sl (.int .i32)) a0 _,.fn f []]=>bif f==128 then (qei a0,de (z127 a0) none) else bif f==95 then (qei a0,de (qy a0) none) else (false,.bad)
 | _=>nB
def s_z127_v0:Sp
 | [.dat (.sl (.int .i32)) a0 _,.fn 128 []]=>(qei a0,de (z127 a0) none)
 | _=>nB
def s_z127_v1:Sp
 | [.dat (.sl (.int .i32)) a0 _,.fn 95 []]=>(qei a0,de (qy a0) none)
 | _=>nB
def s_z92:Sp
 | [.dat (.sl (.int .i32)) a0 _]=>(qGc a0,(de (z92 a0) none))
 | _=>nB
def s_z65:Sp
 | [.dat (.sl (.int .i32)) a0 _]=>(quN a0,(dh (z65 a0) none))
 | _=>nB
def s_z93:Sp
 | [.dat (.sl (.int .i32)) a0 _,di a1 _]=>(quM a0 a1,(de (z93 a0 a1) none))
 | _=>nB
def s_z66:Sp
 | [.dat (.sl (.int .i32)) a0 _,di a1 _]=>(qGA a0 a1,(dh (z66 a0 a1) none))
 | _=>nB
def s_z47:Sp
 | [db a0 _,.dat (.sl (.int .i32)) a1 _]=>(quX a0 a1,(de (z47 a0 a1) none))
 | _=>nB
def s_z94:Sp
 | [.dat (.sl (.int .i32)) a0 _,.fn 95 []]=>(qGB a0,(dh (z94 a0) none))
 | _=>nB
def s_z67:Sp
 | [.dat (.sl (.int .i32)) a0 _]=>(qGC a0,(dh (z67 a0) none))
 | _=>nB
def s_z130:Sp
 | [di a0 _]=>(true,(dh (z130 a0) none))
 | _=>nB
def s_z96:Sp
 | [.dat (.sl (.int .i32)) a0 _]=>(qGd a0,(de (z96 a0) none))
 | _=>nB
def s_z68:Sp
 | [.dat (.sl (.int .i32)) a0 _]=>(quO a0,(.tup [(db ((z68 a0).1) none),(de ((z68 a0).2) none)]))
 | _=>nB
def s_z97:Sp
 | [db a0 _]=>(qGx a0,(db (z97 a0) (some (2,5))))
 | _=>nB
def s_z69:Sp
 | [db a0 _]=>(qGy a0,(db (z69 a0) (some (2,5))))
 | _=>nB
def s_z48:Sp
 | [db a0 _,.dat (.sl (.int .i32)) a1 _]=>(quY a0 a1,(.tup [(db ((z48 a0 a1).1) none),(dh ((z48 a0 a1).2) none)]))
 | _=>nB
def s_z137:Sp
 | [di a0 _]=>(true,(.tup [(dn ((z137 a0).1) none),(dh ((z137 a0).2) none)]))
 | _=>nB
def s_z131:Sp
 | [di a0 _]=>(true,(dh (z131 a0) none))
 | _=>nB
def s_z139:Sp
 | [di a0 _]=>(true,(.tup [(dn ((z139 a0).1) none),(dh ((z139 a0).2) none)]))
 | _=>nB
def s_z132:Sp
 | [di a0 _]=>(true,(dh (z132 a0) none))
 | _=>nB
def s_z98:Sp
 | [de a0 _,di a1 _]=>(true,(dh (z98 a0 a1) none))
 | _=>nB
def s_z70:Sp
 | [di a0 _]=>(true,(de (z70 a0) none))
 | _=>nB
def s_z134:Sp
 | [.dat (.int .u64) a0 _]=>(qAK a0,(de (z134 a0) none))
 | _=>nB
def s_z99:Sp
 | [.dat (.int .u64) a0 _]=>(qFV a0,(de (z99 a0) none))
 | _=>nB
def s_z71:Sp
 | [de a0 _]=>(qFX a0,(de (z71 a0) none))
 | _=>nB
def s_z49:Sp
 | [.dat (.sl (.int .i32)) a0 _]=>(qFY a0,(.tup [(de ((z49 a0).1) none),(de ((z49 a0).2) none)]))
 | _=>nB
def s_z100:Sp
 | [de a0 _]=>(true,(de (z100 a0) none))
 | _=>nB
def s_z135:Sp
 | [de a0 _,.dat (.sl (.int .i32)) a1 _]=>(qth a0 a1,(de (z135 a0 a1) none))
 | _=>nB
def s_z101:Sp
 | [de a0 _,.dat (.sl (.int .i32)) a1 _]=>(qti a0 a1,(dh (z101 a0 a1) none))
 | _=>nB
def s_z156:Sp
 | [di a0 _]=>(true,(de (z156 a0) none))
 | _=>nB
def s_z136:Sp
 | [db a0 _,di a1 _]=>(qta a0 a1,(.tup [(db ((z136 a0 a1).1) none),(de ((z136 a0 a1).2) none)]))
 | _=>nB
def s_z102:Sp
 | [.dat (.sl (.int .i32)) a0 _]=>(qte a0,(.tup [(db ((z102 a0).1) none),(de ((z102 a0).2) none)]))
 | _=>nB
def s_z103:Sp
 | [.dat (.sl (.int .i32)) a0 _]=>(qtc a0,(.tup [(db ((z103 a0).1) none),(de ((z103 a0).2) none)]))
 | _=>nB
def s_z138:Sp
 | [.dat (.sl (.int .i32)) a0 _]=>(qtb a0,(de (z138 a0) none))
 | _=>nB
def s_z104:Sp
 | [.dat (.sl (.int .i32)) a0 _]=>(qtd a0,(.tup [(db ((z104 a0).1) none),(de ((z104 a0).2) none)]))
 | _=>nB
def s_z72:Sp
 | [de a0 _,.dat (.sl (.int .i32)) a1 _]=>(qGe a0 a1,(.tup [(db ((z72 a0 a1).1) none),(de ((z72 a0 a1).2) none)]))
 | _=>nB
def s_z105:Sp
 | [dn a0 _]=>(true,(de (z105 a0) none))
 | _=>nB
def s_z160:Sp
 | [de a0 _]=>(qeh a0,(dn (z160 a0) none))
 | _=>nB
def s_z140:Sp
 | [dn a0 _]=>(true,(db (z140 a0) (some (2,5))))
 | _=>nB
def s_z106:Sp
 | [db a0 _,dn a1 _,dn a2 _]=>(qsZ a0 a1 a2,(db (z106 a0 a1 a2) (some (6,5))))
 | _=>nB
def s_z73:Sp
 | [db a0 _]=>(qGw a0,(db (z73 a0) (some (2,5))))
 | _=>nB
def s_z50:Sp
 | [de a0 _,.dat (.sl (.int .i32)) a1 _]=>(qGD a0 a1,(.dat (.sl (.sl .byte)) (z50 a0 a1) (some (4,22))))
 | _=>nB
def s_z171:Sp
 | [de a0 _]=>(qtu a0,(df (z171 a0) none))
 | _=>nB
def s_z172:Sp
 | [.dat (.int .u64) a0 _]=>(false,(de (z172 a0) none))
 | _=>nB
def s_z174:Sp
 | [db a0 _,.dat (.int .u64) a1 _,de a2 _,dh a3 _,dh a4 _]=>(false,(.tup [(db ((z174 a0 a1 a2 a3 a4)).1 none),(df ((z174 a0 a1 a2 a3 a4)).2 none)]))
 | _=>nB
def s_z161:Sp
 | [db a0 (some (0,5)),.dat (.int .u64) a1 _,de a2 _]=>(qkr a0 a1 a2,(db (z161 a0 a1 a2) (some (6,5))))
 | _=>nB
def s_z141:Sp
 | [db a0 (some (0,5)),de a1 _,de a2 _]=>(qob a0 a1 a2,(db (z141 a0 a1 a2) (some (6,5))))
 | _=>nB
def s_z107:Sp
 | [db a0 (some (0,5)),de a1 _,de a2 _]=>(qoc a0 a1 a2,(db (z107 a0 a1 a2) (some (6,5))))
 | _=>nB
def s_z74:Sp
 | [.dat (.pair (.sl .byte) (.pair (.int .i64) (.pair .bool (.pair (.sl .byte) .unit)))) a0 _]=>(qAW a0,(db (z74 a0) (some (2,5))))
 | _=>nB
def s_z75:Sp
 | [de a0 _]=>(true,(df (z75 a0) none))
 | _=>nB
def s_z51:Sp
 | [db a0 _,de a1 _,de a2 _]=>(qhh a0 a1 a2,(db (z51 a0 a1 a2) (some (6,5))))
 | _=>nB
def s_z52:Sp
 | [.dat (.sl (.sl .byte)) a0 _,db a1 _]=>(quL a0 a1,(db (z52 a0 a1) none))
 | _=>nB
def s_z77:Sp
 | [db a0 _,.pbox (.leaf .bool) a1 none,.pbox (.osl 5 .byte) a2 none,.pbox (.psl 22 (.osl 5 .byte)) a3 none,.pbox (.leaf (.sl .byte)) a4 none,.pbox (.leaf (.int .i64)) a5 none]=>((quZ a0 a1 a2 a3 a4 a5),.tup [(.tup []),.bad,(.pbox (.leaf .bool) ((z77 a0 a1 a2 a3 a4 a5).1) none),(.pbox (.osl 5 .byte) ((z77 a0 a1 a2 a3 a4 a5).2.1) none),(.pbox (.psl 22 (.osl 5 .byte)) ((z77 a0 a1 a2 a3 a4 a5).2.2.1) none),(.pbox (.leaf (.sl .byte)) ((z77 a0 a1 a2 a3 a4 a5).2.2.2.1) none),(.pbox (.leaf (.int .i64)) ((z77 a0 a1 a2 a3 a4 a5).2.2.2.2) none)])
 | _=>nB
def s_z53:Sp
 | [db a0 _,de a1 _,.dat (.sl (.sl .byte)) a2 _]=>(qva a0 a1 a2,(.dat (.sl (.sl .byte)) (z53 a0 a1 a2) none))
 | _=>nB
def s_z32:Sp
 | [db a0 _,.dat (.sl (.int .i32)) a1 _]=>(qGE a0 a1,(.tup [(.dat (.sl (.sl .byte)) ((z32 a0 a1).1) none),(de ((z32 a0 a1).2) none)]))
 | _=>nB
def s_z21:Sp
 | [db a0 _,.dat (.sl (.int .i32)) a1 _]=>(qGF a0 a1,(.tup [(db ((z21 a0 a1).1) none),(de ((z21 a0 a1).2) none)]))
 | _=>nB
def s_z11:Sp
 | [.dat (.pair (.sl .byte) (.pair (.sl .byte) (.pair (.sl (.pair (.sl .byte) (.pair (.sl (.int .i32)) .unit))) .unit))) a0 _]=>(quJ a0,(.tup [(db ((z11 a0).1) none),(de ((z11 a0).2) none)]))
 | _=>nB
def s_z26:Sp
 | [.dat (.sl (.int .i32)) a0 _,.dat (.sl (.int .i32)) a1 _]=>(qGj a0 a1,(dh (z26 a0 a1) none))
 | _=>nB
def s_z13:Sp
 | [.dat (.pair (.sl .byte) (.pair (.sl .byte) (.pair (.sl (.pair (.sl .byte) (.pair (.sl (.int .i32)) .unit))) .unit))) a0 _,.dat (.pair (.sl .byte) (.pair (.sl .byte) (.pair (.sl (.pair (.sl .byte) (.pair (.sl (.int .i32)) .unit))) .unit))) a1 _]=>(quK a0 a1,(dh (z13 a0 a1) none))
 | _=>nB
def s_z4:Sp
 | [.dat (.pair (.sl .byte) (.pair (.sl .byte) (.pair (.sl (.pair (.sl .byte) (.pair (.sl (.int .i32)) .unit))) .unit))) a0 _]=>(z4_ok a0,(dh (z4 a0) none))
 | _=>nB
theorem qwv:gG 162 s_z162:=fun w S hg vals avs r h hS ha=>by
 unfold s_z162 at h;split at h
 ·simp only[yb,true_and] at h;subst h;exact qud func162 (by kernel_rfl) (by kernel_rfl) (by kernel_rfl) (by kernel_rfl) hS ha
 ·cases h
theorem qaO:gG 20 s_z20:=fun w S hg vals avs r h hS ha=>by
 unfold s_z20 at h;split at h
 ·obtain⟨hp,rfl⟩:=yj h;exact qyt hS ha (qf hp)
 ·cases h
theorem qCb:gG 82 s_z82:=fun w S hg vals avs r h hS ha=>by
 unfold s_z82 at h;split at h
 ·obtain⟨hp,rfl⟩:=yj h;exact qyu hS ha (qf hp)
 ·cases h
theorem qCc:gG 43 s_z43:=fun w S hg vals avs r h hS ha=>by
 unfold s_z43 at h;split at h
 ·obtain⟨hp,rfl⟩:=yj h;exact qyv hS ha (qf hp)
 ·cases h
theorem qCd:gG 90 s_z90:=fun w S hg vals avs r h hS ha=>by
 unfold s_z90 at h;split at h
 ·simp only[yb,true_and] at h;subst h;exact qys hS ha
 ·cases h
theorem qww:gG 125 s_z125:=fun w S hg vals avs r h hS ha=>by
 unfold s_z125 at h;split at h
 ·simp only[yb] at h;cases h.1
 ·cases h
theorem qwx:gG 126 s_z126:=fun w S hg vals avs r h hS ha=>by
 unfold s_z126 at h;split at h
 ·simp only[yb] at h;cases h.1
 ·cases h
theorem qwy:gG 134 s_z134:=fun w S hg vals avs r h hS ha=>by
 unfold s_z134 at h;split at h
 ·obtain⟨hp,rfl⟩:=yj h;have hp':=of_decide_eq_true hp;exact que hg hS ha hp'.1 hp'.2
 ·cases h
theorem qCe:gG 52 s_z52:=fun w S hg vals avs r h hS ha=>by
 unfold s_z52 at h;split at h
 ·obtain⟨hp,rfl⟩:=yj h;exact qyy hS ha hp
 ·cases h
theorem qtW:qcZ Any prog 172 s_z172:=fun w S hg vals avs r h hS ha=>by
 unfold s_z172 at h;split at h
 ·simp only[yb] at h;cases h.1
 ·cases h
theorem qtX:qcZ Any prog 174 s_z174:=fun w S hg vals avs r h hS ha=>by
 unfold s_z174 at h;split at h
 ·simp only[yb] at h;cases h.1
 ·cases h
def E_z5:EnvP:=eQ [] 44 (some [2]) (fun x=>if x=2 then some [1,11,12,13] else none) (fun x=>if x=0 then some [1] else if x=1 then some [1,11,12,13] else none) nP
def C_z5:Code:=cO f5
def R_z5:Array ResultVar:=f5.results
noncomputable def qJi (K:KT):=fun t1=>K (.exit 0) (frOf [(1,(.adr (.pair (.sl .byte) (.pair (.sl .byte) (.pair (.sl (.pair (.sl .byte) (.pair (.sl (.int .i32)) .unit))) .unit))) t1))])
noncomputable def qJj (K:KT):=fun s2=>K .ret (frOf [(2,dg s2)])
def qSd (n:Nat):KT:=qn 0 (E_z5.cutb 0) (kSeq (evCP E_z5 (evLP E_z5 n) (sub C_z5 [1,1])) (kFnP E_z5 R_z5))
def qSe (t1:LU×(LU×((List (LU×(LI×Unit)))×Unit))) (s11:List (LU×(LI×Unit))) (s12:Int) (s13:Int):Fr:=frOf [(1,(.adr (.pair (.sl .byte) (.pair (.sl .byte) (.pair (.sl (.pair (.sl .byte) (.pair (.sl (.int .i32)) .unit))) .unit))) t1)),(11,(.dat (.sl (.pair (.sl .byte) (.pair (.sl (.int .i32)) .unit))) s11 none)),(12,dc s12),(13,dc s13)]
theorem qJk (K:KT) (n:Nat):(fun t1 s11 s12 s13=>evLP E_z5 n (sub C_z5 [1,0,1,0,0]) K (qSe t1 s11 s12 s13))=z5_l2 (qJj K) (qJi K) n:=by
 induction n
 kernel_rfl;rename_i n ih;show _=qjG (qJj K) (qJi K) (z5_l2 (qJj K) (qJi K) n) n;rw[← ih];kernel_rfl
theorem z5_ev (n:Nat) (t0:LU×(LU×((List (LU×(LI×Unit)))×Unit))) (o0:Lab):evFnP E_z5 n C_z5 R_z5 [.dat (.pair (.sl .byte) (.pair (.sl .byte) (.pair (.sl (.pair (.sl .byte) (.pair (.sl (.int .i32)) .unit))) .unit))) t0 o0]=z5_sh n t0:=by
 unfold z5_sh qgb;rw[(Eq.trans (by kernel_rfl) (qJk (qSd n) n).symm:z5_l2 qga (qee n) n=_)];kernel_rfl
theorem qJl:gG 5 s_z5:=sQ (E:=E_z5) (c:=C_z5) rfl fN func5 fun avs r h=>by
 unfold s_z5 at h;split at h <;> cases h
 exact eX (qRg _) fun n=>z5_ev n _ _
theorem qla:gG 30 s_z30:=sY [] 12 (some [2]) fN func30 fun avs r h=>by
 unfold s_z30 at h;split at h <;> cases h
 exact eX (qKU _)
def E_z18:EnvP:=eQ [(30,s_z30)] 39 (some [4]) (fun x=>if x=3 then some [0,5,9] else none) (fun x=>if x=0 then some [0,5] else if x=1 then some [0,5,9] else none) nP
def C_z18:Code:=cO f18
def R_z18:Array ResultVar:=f18.results
def s_z18:Sp:=byE E_z18 C_z18 R_z18
theorem qCf:gG 18 s_z18:=by
 refine qam G_stays (E:=E_z18) (fn:=f18) (c:=C_z18) (qq rfl qcX) (fun w S hg=>⟨⟨(qv (qla w S hg) qJ),fun f sp h=>qI f sp h w S⟩,qW w S hg,(fun _ _ h=>by cases h),(fun f sp h=>qaj f sp h),(fun f it h=>qak f it h),(fun t kt vt h=>qR t kt vt h)⟩) follows func18 (by kernel_rfl) (by kernel_rfl) (by kernel_rfl) fun _ _ h=>qej h
def E_z9:EnvP:=eQ [(18,s_z18)] 17 (some [6]) nC nC nP
def C_z9:Code:=cO f9
def R_z9:Array ResultVar:=f9.results
def s_z9:Sp:=byE E_z9 C_z9 R_z9
theorem qJm:gG 9 s_z9:=by
 refine qam G_stays (E:=E_z9) (fn:=f9) (c:=C_z9) (qq rfl qcX) (fun w S hg=>⟨⟨(qv (qCf w S hg) qJ),fun f sp h=>qI f sp h w S⟩,qW w S hg,(fun _ _ h=>by cases h),(fun f sp h=>qaj f sp h),(fun f it h=>qak f it h),(fun t kt vt h=>qR t kt vt h)⟩) follows func9 (by kernel_rfl) (by kernel_rfl) (by kernel_rfl) fun _ _ h=>qej h
theorem qhr:gG 33 s_z33:=sY [] 10 (some [4]) fN func33 fun avs r h=>by
 unfold s_z33 at h;split at h <;> cases h
 exact eX (qLV _ _)
def E_z54:EnvP:=eQ [] 56 (some [4,56]) nC (fun x=>if x=0 then some [56] else none) nP
def C_z54:Code:=cO f54
def R_z54:Array ResultVar:=f54.results
theorem qSf (n:Nat) (k0:Int×(Int×(Bool×Unit))) (c1:UInt8) (o1:Lab):evFnM E_z54 n C_z54 R_z54 [.pbox (.ppair (.leaf (.int .i64)) (.ppair (.leaf (.int .i64)) (.ppair (.leaf .bool) (.leaf .unit)))) k0 none,dn c1 o1]=qKv n k0 c1:=by
 kernel_rfl
theorem qCg:qjl G prog 54 s_z54:=sM (E:=E_z54) (fun w S hg=>⟨⟨qJ,fun f sp h=>qI f sp h w S⟩,qW w S hg,(fun _ _ h=>by cases h),(fun f sp h=>qaj f sp h),(fun f it h=>qak f it h),(fun t kt vt h=>qR t kt vt h)⟩) func54 fun avs r h=>by
 unfold s_z54 at h;split at h
 ·obtain⟨hp,rfl⟩:=yj h;obtain⟨n,hn⟩:=qLW _ _ hp;exact⟨n,(qSf n _ _ _).trans hn⟩
 ·cases h
def E_z34:EnvP:=⟨⟨tiOf tis,fnsOf [],cnsOf [],[],35,(fun x=>if x=4 then some [0,4,5,12,13,14] else none),(fun x=>if x=0 then some [0,4] else if x=1 then some [0,4,5,12,13,14] else none),some [2,3]⟩,(fun x=>if x=8 then some (.ppair (.leaf (.int .i64)) (.ppair (.leaf (.int .i64)) (.ppair (.leaf .bool) (.leaf .unit)))) else if x=9 then some (.ppair (.leaf (.int .i64)) (.ppair (.leaf (.int .i64)) (.ppair (.leaf .bool) (.leaf .unit)))) else none),fun _=>none,fun _=>[],(fun x=>if x=54 then some s_z54 else none),fun _=>none,fun _=>none,fun _=>none⟩
def C_z34:Code:=cO f34
def R_z34:Array ResultVar:=f34.results
noncomputable def qwz (K:KT):=fun s0 k4=>K (.exit 0) (frOf [(0,da s0),(4,(.pbox (.ppair (.leaf (.int .i64)) (.ppair (.leaf (.int .i64)) (.ppair (.leaf .bool) (.leaf .unit)))) k4 none))])
noncomputable def qwA (K:KT):=fun s2 s3=>K .ret (frOf [(2,dc s2),(3,dc s3)])
def qOd (n:Nat):KT:=qn 0 (E_z34.cutb 0) (kSeq (evCP E_z34 (evLP E_z34 n) (sub C_z34 [1,1,1,1])) (kFnP E_z34 R_z34))
def qOe (s0:LU) (k4:Int×(Int×(Bool×Unit))) (s12:LU) (s13:Int) (s14:Int):Fr:=frOf [(0,da s0),(4,(.pbox (.ppair (.leaf (.int .i64)) (.ppair (.leaf (.int .i64)) (.ppair (.leaf .bool) (.leaf .unit)))) k4 none)),(5,(.padr 4 [.clo 54 true])),(12,da s12),(13,dc s13),(14,dc s14)]
theorem qCh (K:KT) (n:Nat):(fun s0 k4 s12 s13 s14=>evLP E_z34 n (sub C_z34 [1,1,1,0,1,0,0]) K (qOe s0 k4 s12 s13 s14))=quh (qwA K) (qwz K) n:=by
 induction n
 kernel_rfl;rename_i n ih;show _=qgc (qwA K) (qwz K) (quh (qwA K) (qwz K) n) n;rw[← ih];kernel_rfl
theorem qSg (n:Nat) (s0:LU) (o0:Lab):evFnP E_z34 n C_z34 R_z34 [db s0 o0]=qKw n s0:=by
 unfold qKw;rw[(Eq.trans (by kernel_rfl) (qCh (qOd n) n).symm:quh qnb (qpB n) n=_)];kernel_rfl
theorem qCi:gG 34 s_z34:=sG (E:=E_z34) (fun w S hg=>⟨⟨qJ,fun f sp h=>qI f sp h w S⟩,qW w S hg,(fun f sp h=>(qda (qCg w S hg) qgI) f sp h),(fun f sp h=>qaj f sp h),(fun f it h=>qak f it h),(fun t kt vt h=>qR t kt vt h)⟩) func34 fun avs r h=>by
 unfold s_z34 at h;split at h
 ·obtain⟨hp,rfl⟩:=yj h;exact eX (qLX _ hp) fun n=>qSg n _ _
 ·cases h
theorem qCj:gG 78 s_z78:=sZ [] 46 (some [2]) nC (fun x=>if x=0 then some [3] else none) nP fN func78 fun avs r h=>by
 unfold s_z78 at h;split at h <;> cases h
 exact eX (qKH _)
theorem qwB:gG 142 s_z142:=sY [(162,s_z162)] 8 (some [4]) (fC qwv fN) func142 fun avs r h=>by
 unfold s_z142 at h;split at h <;> cases h
 exact eX (qEp _ _)
theorem qwC:gG 108 s_z108:=sY [(142,s_z142)] 8 (some [4]) (fC qwB fN) func108 fun avs r h=>by
 unfold s_z108 at h;split at h <;> cases h
 exact eX (qEq _ _)
theorem qCk:gG 79 s_z79:=sY [(108,s_z108)] 9 (some [4]) (fC qwC fN) func79 fun avs r h=>by
 unfold s_z79 at h;split at h <;> cases h
 exact eX (qKI _ _)
theorem qCl:gG 55 s_z55:=sY [(78,s_z78),(79,s_z79)] 35 (some [2]) (fC qCj (fC qCk fN)) func55 fun avs r h=>by
 unfold s_z55 at h;split at h <;> cases h
 exact eX (qKJ _)
theorem qfd:gG 35 s_z35:=sY [(55,s_z55)] 10 (some [4]) (fC qCl fN) func35 fun avs r h=>by
 unfold s_z35 at h;split at h <;> cases h
 exact eX (qKK _ _)
def E_z22:EnvP:=eQ [(33,s_z33),(34,s_z34),(35,s_z35)] 43 (some [4]) (fun x=>if x=2 then some [0,1] else none) (fun x=>if x=0 then some [1] else if x=1 then some [0,1] else if x=2 then some [0,1] else none) nP
def C_z22:Code:=cO f22
def R_z22:Array ResultVar:=f22.results
noncomputable def qwD (K:KT):=fun at1=>K (.exit 0) (frOf [(1,dc at1)])
noncomputable def qwE (K:KT):=fun s4=>K .ret (frOf [(4,dc s4)])
def qOf (n:Nat):KT:=qn 0 (E_z22.cutb 0) (kSeq (evCP E_z22 (evLP E_z22 n) (sub C_z22 [1,1,1])) (kFnP E_z22 R_z22))
def qOg (s0:LU) (at1:Int):Fr:=frOf [(0,da s0),(1,dc at1)]
theorem qCm (K:KT) (n:Nat):(fun s0 at1=>evLP E_z22 n (sub C_z22 [1,1,0,0,0]) K (qOg s0 at1))=qui (qwE K) (qwD K) n:=by
 induction n
 kernel_rfl;rename_i n ih;show _=qli (qwE K) (qwD K) (qui (qwE K) (qwD K) n) n;rw[← ih];kernel_rfl
theorem qSh (n:Nat) (s0:LU) (o0:Lab) (at1:Int) (o1:Lab):evFnP E_z22 n C_z22 R_z22 [db s0 o0,de at1 o1]=qKx n s0 at1:=by
 unfold qKx;rw[(Eq.trans (by kernel_rfl) (qCm (qOf n) n).symm:qui qyD (qpC n) n=_)];kernel_rfl
theorem qdF:gG 22 s_z22:=sQ (E:=E_z22) (c:=C_z22) rfl (fC qhr (fC qCi (fC qfd fN))) func22 fun avs r h=>by
 unfold s_z22 at h;split at h
 ·obtain⟨hp,rfl⟩:=yj h;exact eX (qLZ _ _ hp) fun n=>qSh n _ _ _ _
 ·cases h
theorem qlb:gG 24 s_z24:=sY [(22,s_z22),(33,s_z33)] 29 (some [6,7]) (fC qdF (fC qhr fN)) func24 fun avs r h=>by
 unfold s_z24 at h;split at h
 ·obtain⟨hp,rfl⟩:=yj h;exact eX (qMb _ _ _ hp)
 ·cases h
def E_z36:EnvP:=eQ [(20,s_z20),(33,s_z33),(35,s_z35)] 40 (some [4,5,6]) (fun x=>if x=3 then some [0,1,7] else none) (fun x=>if x=0 then some [0,1,7] else if x=1 then some [0,1,7] else if x=2 then some [0,1,7] else none) nP
def C_z36:Code:=cO f36
def R_z36:Array ResultVar:=f36.results
def qGM (s0:LU) (at1:Int) (n7:Int):Fr:=frOf [(0,da s0),(1,dc at1),(7,dc n7)]
noncomputable def qwF (K:KT):=fun s0 at1 n7=>K (.exit 0) (qGM s0 at1 n7)
def qOh (n:Nat):KT:=qn 0 (E_z36.cutb 0) (kSeq (evCP E_z36 (evLP E_z36 n) (sub C_z36 [1,1,1,1])) (kFnP E_z36 R_z36))
theorem qCn (K:KT) (n:Nat):(fun s0 at1 n7=>evLP E_z36 n (sub C_z36 [1,1,1,0,0,0]) K (qGM s0 at1 n7))=quj (qwF K) n:=by
 induction n
 kernel_rfl;rename_i n ih;show _=qgd (qwF K) (quj (qwF K) n) n;rw[← ih];kernel_rfl
theorem qSi (n:Nat) (s0:LU) (o0:Lab) (at1:Int) (o1:Lab):evFnP E_z36 n C_z36 R_z36 [db s0 o0,de at1 o1]=qDX n s0 at1:=by
 unfold qDX;rw[(Eq.trans (by kernel_rfl) (qCn (qOh n) n).symm:quj (qpD n) n=_)];kernel_rfl
theorem qlc:gG 36 s_z36:=sQ (E:=E_z36) (c:=C_z36) rfl (fC qaO (fC qhr (fC qfd fN))) func36 fun avs r h=>by
 unfold s_z36 at h;split at h
 ·obtain⟨hp,rfl⟩:=yj h;exact eX (qMa _ _ hp) fun n=>qSi n _ _ _ _
 ·cases h
def E_z37:EnvP:=eQ [(20,s_z20),(30,s_z30)] 22 (some [2]) (fun x=>if x=3 then some [3,8,9,10] else none) (fun x=>if x=0 then some [3] else if x=1 then some [3,8,9,10] else none) (fun x=>if x=7 then some (.psl 5 (.leaf .byte)) else none)
def C_z37:Code:=cO f37
def R_z37:Array ResultVar:=f37.results
noncomputable def qwG (K:KT):=fun out3=>K (.exit 0) (frOf [(3,(.pv (.psl 5 (.leaf .byte)) out3 none))])
def qOi (n:Nat):KT:=qn 0 (E_z37.cutb 0) (kSeq (evCP E_z37 (evLP E_z37 n) (sub C_z37 [1,1,1])) (kFnP E_z37 R_z37))
def qOj (out3:LU) (s9:Int) (s10:Int):Fr:=frOf [(3,(.pv (.psl 5 (.leaf .byte)) out3 none)),(8,(.pval 3 [])),(9,dc s9),(10,dc s10)]
theorem qCo (K:KT) (n:Nat):(fun out3 s9 s10=>evLP E_z37 n (sub C_z37 [1,1,0,1,0,0]) K (qOj out3 s9 s10))=qnc (qwG K) n:=by
 induction n
 kernel_rfl;rename_i n ih;show _=qge (qwG K) (qnc (qwG K) n) n;rw[← ih];kernel_rfl
theorem qSj (n:Nat) (s0:LU) (o0:Lab):evFnP E_z37 n C_z37 R_z37 [db s0 o0]=qDY n s0:=by
 unfold qDY;rw[(Eq.trans (by kernel_rfl) (qCo (qOi n) n).symm:qnc (qpE n) n=_)];kernel_rfl
theorem qfe:gG 37 s_z37:=sQ (E:=E_z37) (c:=C_z37) rfl (fC qaO (fC qla fN)) func37 fun avs r h=>by
 unfold s_z37 at h;split at h
 ·obtain⟨hp,rfl⟩:=yj h;exact eX (qKV _ hp) fun n=>qSj n _ _
 ·cases h
theorem qCp:gG 23 s_z23:=sY [(22,s_z22),(24,s_z24),(36,s_z36),(37,s_z37)] 48 (some [2,3,4]) (fC qdF (fC qlb (fC qlc (fC qfe fN)))) func23 fun avs r h=>by
 unfold s_z23 at h;split at h
 ·obtain⟨hp,rfl⟩:=yj h;exact eX (qKr _ hp)
 ·cases h
theorem qrl:gG 60 s_z60:=sY [] 10 (some [4]) fN func60 fun avs r h=>by
 unfold s_z60 at h;split at h <;> cases h
 exact eX (qKW _ _)
theorem qrm:gG 42 s_z42:=sY [(37,s_z37),(60,s_z60)] 10 (some [4]) (fC qfe (fC qrl fN)) func42 fun avs r h=>by
 unfold s_z42 at h;split at h
 ·obtain⟨hp,rfl⟩:=yj h;exact eX (qLe _ _ hp)
 ·cases h
theorem qCq:gG 56 s_z56:=fun w S hg vals avs r h hS ha=>by
 unfold s_z56 at h;split at h
 ·obtain⟨hp,rfl⟩:=yj h;exact quG qrm (fun _ _ _ _=>rfl) hg hS ha hp
 ·cases h
theorem qrn:gG 61 s_z61:=sZ [] 19 (some [2]) nC (fun x=>if x=0 then some [] else none) nP fN func61 fun avs r h=>by
 unfold s_z61 at h;split at h <;> cases h
 exact eX (qKP _)
end
end
end Go.Av
