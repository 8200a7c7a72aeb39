import Derived.Test.YtcbimkaeoojceaaGreatDoorPjP10
import Derived.Test.YtcbimkaeoojceaaGreatDoorPjU
import Derived.Test.YtcbimkaeoojceaaGreatDoorProg
import Derived.KernelRfl
namespace Go.Av
set_option linter.unusedSimpArgs false
set_option linter.unusedVariables false
noncomputable section
open Go.Proofs
set_option maxRecDepth 100000
def tis:List (TypeId×TI):=[(2,⟨some (.int .i64),8,0⟩),
 (3,⟨some (.int .i64),8,0⟩),
 (4,⟨some .bool,1,0⟩),
 (5,⟨some .byte,1,0⟩),
 (6,⟨some .byte,1,0⟩),
 (7,⟨some (.pair (.int .i64) (.pair (.int .i64) (.pair .bool (.pair .byte .unit)))),24,0⟩),
 (8,⟨some (.pair (.int .i64) (.pair (.int .i64) (.pair .bool (.pair .byte .unit)))),24,0⟩),
 (9,⟨some .str,16,0⟩),
 (10,⟨some .str,16,0⟩),
 (11,⟨some .str,16,0⟩),
 (12,⟨some (.int .u64),8,0⟩),
 (13,⟨some (.pair .str (.pair (.int .u64) .unit)),24,0⟩),
 (14,⟨some (.pair .str (.pair (.int .u64) .unit)),24,0⟩),
 (21,⟨some (.int .i32),4,0⟩),
 (22,⟨some (.sl .byte),24,5⟩),
 (23,⟨some (.sl (.int .i32)),24,21⟩),
 (27,⟨some (.sl (.pair (.sl .byte) (.pair (.sl (.int .i32)) .unit))),24,31⟩),
 (30,⟨some (.pair (.sl .byte) (.pair (.sl (.int .i32)) .unit)),48,0⟩),
 (31,⟨some (.pair (.sl .byte) (.pair (.sl (.int .i32)) .unit)),48,0⟩),
 (39,⟨some (.sl (.sl .byte)),24,22⟩),
 (43,⟨some (.sl (.pair (.sl .byte) (.pair (.int .i64) (.pair .bool (.pair (.sl .byte) .unit))))),24,59⟩),
 (58,⟨some (.pair (.sl .byte) (.pair (.int .i64) (.pair .bool (.pair (.sl .byte) .unit)))),64,0⟩),
 (59,⟨some (.pair (.sl .byte) (.pair (.int .i64) (.pair .bool (.pair (.sl .byte) .unit)))),64,0⟩),
 (60,⟨some (.sl (.int .i64)),24,3⟩),
 (64,⟨some (.int .i64),8,0⟩),
 (71,⟨some (.pair (.sl .byte) (.pair (.int .i64) (.pair .bool (.pair (.sl .byte) .unit)))),64,0⟩),
 (72,⟨some (.sl .str),24,9⟩),
 (122,⟨some (.pair (.int .i64) (.pair (.int .i64) (.pair .bool .unit))),24,0⟩),
 (123,⟨some (.pair (.int .i64) (.pair (.int .i64) (.pair .bool .unit))),24,0⟩),
 (127,⟨some (.int .u64),8,0⟩),
 (130,⟨some (.pair .byte (.pair (.int .i32) .unit)),8,0⟩),
 (131,⟨some (.pair .byte (.pair (.int .i32) .unit)),8,0⟩),
 (132,⟨some (.arr 8 (.pair .byte (.pair (.int .i32) .unit))),64,131⟩),
 (136,⟨some (.int .u32),4,0⟩),
 (140,⟨some (.arr 256 .bool),256,4⟩),
 (141,⟨some (.arr 256 .bool),256,4⟩),
 (147,⟨some (.arr 32 (.int .i32)),128,21⟩),
 (154,⟨some (.arr 256 .byte),256,5⟩),
 (155,⟨some (.pair .byte (.pair .byte .unit)),2,0⟩),
 (156,⟨some (.pair .byte (.pair .byte .unit)),2,0⟩),
 (157,⟨some (.arr 16 (.pair .byte (.pair .byte .unit))),32,156⟩),
 (165,⟨some .byte,1,0⟩),
 (166,⟨some .byte,1,0⟩),
 (169,⟨some (.int .i32),4,0⟩),
 (170,⟨some (.int .i32),4,0⟩)]
theorem qcq:(tis.all fun p=>tyB Tryz.prog (tiOf tis) p.1)=true:=by kernel_rfl
theorem follows:Tryz.prog.follows .mixedOrders=true:=by kernel_rfl
abbrev FnL:=List (FuncId×(List AV→Bool×AV))
abbrev CutL:=Nat→Option (List Nat)
def eQ (l:FnL) (nt:Nat) (r:Option (List Nat)) (a b:CutL) (p:Nat→Option PSh):EnvP:=⟨⟨tiOf tis,fnsOf l,cnsOf [],[],nt,a,b,r⟩,p,fun _=>none,fun _=>[],fun _=>none,fun _=>none,fun _=>none,fun _=>none⟩
def cO (f:Func):Code:=f.body.getD .skip
def nC:CutL:=fun _=>none
def nP:Nat→Option PSh:=fun _=>none
theorem sQ {E:EnvP} {l:FnL} {nt:Nat} {r:Option (List Nat)} {a b:CutL} {p:Nat→Option PSh} {f:FuncId} {fn:Func} {c:Code} {spec:List AV→Bool×AV} (hE:E=eQ l nt r a b p) (hl:∀ w S,G w S→∀ f,qcj Tryz.prog f (fnsOf l f) w S)
 (hf:Tryz.prog.funcs[f]? = some fn) (hspec:∀ avs r',spec avs=(true,r')→∃ n v,evFnP E n c fn.results avs=some v∧(v=r'∨v.strip=r')) (hb:fn.body=some c:=by kernel_rfl) (hnt:fn.ntmps=nt:=by kernel_rfl) (hname:(fn.name == "runtime.NumGoroutine")=false:=by kernel_rfl):qf G Tryz.prog f spec:=by
 subst hE;exact qM G_stays (E:=eQ l nt r a b p) (qo rfl qcq) (fun w S hg=>⟨⟨hl w S hg,fun f sp h=>qaN f sp h w S⟩,qaU w S hg,(fun _ _ h=>by cases h),(fun f sp h=>qbz f sp h),(fun f it h=>qbA f it h),(fun t kt vt h=>qaP t kt vt h)⟩) follows hf hb hnt hname hspec
def s_z43:List AV→Bool×AV
 | [db a0 _]=>(qcQ a0,(db (z43 a0) (some (0,5))))
 | _=>(false,.bad)
def s_z44:List AV→Bool×AV
 | [dp a0 _]=>(true,(dp (z44 a0) none))
 | _=>(false,.bad)
def s_z28:List AV→Bool×AV
 | [db a0 _]=>(qgX a0,(db (z28 a0) (some (2,5))))
 | _=>(false,.bad)
def s_z33:List AV→Bool×AV
 | [db a0 _,db a1 _]=>(true,(dh (z33 a0 a1) none))
 | _=>(false,.bad)
def s_z19:List AV→Bool×AV
 | [db a0 _,db a1 _]=>(qoK a0 a1,(dh (z19 a0 a1) none))
 | _=>(false,.bad)
def s_z29:List AV→Bool×AV
 | [.dat (.sl (.pair (.sl .byte) (.pair (.int .i64) (.pair .bool (.pair (.sl .byte) .unit))))) a0 _,db a1 _]=>(quW a0 a1,(.dat (.sl (.int .i64)) (z29 a0 a1) none))
 | _=>(false,.bad)
def s_z111:List AV→Bool×AV
 | [db a0 _,dp a1 _]=>(true,(de (z111 a0 a1) none))
 | _=>(false,.bad)
def s_z91:List AV→Bool×AV
 | [db a0 _,dp a1 _]=>(true,(de (z91 a0 a1) none))
 | _=>(false,.bad)
def s_z89:List AV→Bool×AV
 | [db a0 _,db a1 _]=>(qwR a0 a1,(de (z89 a0 a1) none))
 | _=>(false,.bad)
def s_z65:List AV→Bool×AV
 | [db a0 _,db a1 _]=>(qmO a0 a1,(.tup [(db ((z65 a0 a1).1) none),(db ((z65 a0 a1).2.1) none),(dh ((z65 a0 a1).2.2) none)]))
 | _=>(false,.bad)
def s_z46:List AV→Bool×AV
 | [db a0 _]=>(qEo a0,(.tup [(db ((z46 a0).1) none),(db ((z46 a0).2.1) none),(dh ((z46 a0).2.2) none)]))
 | _=>(false,.bad)
def s_z90:List AV→Bool×AV
 | [de a0 _]=>(true,(.dat (.sl .str) (z90 a0) (some (2,9))))
 | _=>(false,.bad)
def s_z66:List AV→Bool×AV
 | []=>(true,(.abs (.sl (.pair .str (.int .i64))) (qfD .str (.int .i64)) z66))
 | _=>(false,.bad)
def s_z123:List AV→Bool×AV
 | [db a0 _,dp a1 _]=>(qwS a0 a1,(db (z123 a0 a1) none))
 | _=>(false,.bad)
def s_z124:List AV→Bool×AV
 | [db a0 _,dp a1 _]=>(qwT a0 a1,(db (z124 a0 a1) none))
 | _=>(false,.bad)
def s_z125:List AV→Bool×AV
 | [df a0 _]=>(qin a0,(.tup [(.dat (.arr 256 .bool) ((z125 a0).1) none),(dh ((z125 a0).2) none)]))
 | _=>(false,.bad)
def s_z134:List AV→Bool×AV
 | [.adr (.arr 256 .bool) a0,dp a1 _]=>(true,(dh (z134 a0 a1) none))
 | _=>(false,.bad)
def s_z126:List AV→Bool×AV
 | [db a0 _,.adr (.arr 256 .bool) a1]=>(qmP a0 a1,(db (z126 a0 a1) none))
 | _=>(false,.bad)
def s_z127:List AV→Bool×AV
 | [db a0 _,.adr (.arr 256 .bool) a1]=>(qmQ a0 a1,(db (z127 a0 a1) none))
 | _=>(false,.bad)
def s_z128:List AV→Bool×AV
 | [db a0 _,df a1 _]=>(qwU a0 a1,(db (z128 a0 a1) none))
 | _=>(false,.bad)
def s_z129:List AV→Bool×AV
 | [db a0 _,df a1 _]=>(qwV a0 a1,(db (z129 a0 a1) none))
 | _=>(false,.bad)
def s_z112:List AV→Bool×AV
 | [db a0 _,df a1 _]=>(qjD a0 a1,(db (z112 a0 a1) none))
 | _=>(false,.bad)
def s_z92:List AV→Bool×AV
 | [db a0 _]=>(que a0,(db (z92 a0) (some (2,5))))
 | _=>(false,.bad)
def s_z67:List AV→Bool×AV
 | [db a0 _]=>(qBZ a0,(db (z67 a0) (some (2,5))))
 | _=>(false,.bad)
def s_z47:List AV→Bool×AV
 | [db a0 _]=>(qCb a0,(.tup [(de ((z47 a0).1) none),(de ((z47 a0).2) none)]))
 | _=>(false,.bad)
def s_z48:List AV→Bool×AV
 | [db a0 _]=>(qpi a0,(db (z48 a0) (some (0,5))))
 | _=>(false,.bad)
def s_z94:List AV→Bool×AV
 | [dp a0 _,dh a1 _,.pbox (.osl 5 .byte) a2 none]=>((qyE a0 a1 a2),.tup [(.tup []),.bad,.bad,(.pbox (.osl 5 .byte) (z94 a0 a1 a2) none)])
 | _=>(false,.bad)
def s_z119:List AV→Bool×AV
 | [dp a0 _]=>(true,(de (z119 a0) none))
 | _=>(false,.bad)
def s_z142:List AV→Bool×AV
 | [df a0 _,dp a1 _]=>(true,(de (z142 a0 a1) none))
 | _=>(false,.bad)
def s_z139:List AV→Bool×AV
 | [df a0 _,dp a1 _]=>(true,(de (z139 a0 a1) none))
 | _=>(false,.bad)
def s_z133:List AV→Bool×AV
 | [df a0 _,dp a1 _]=>(true,(de (z133 a0 a1) none))
 | _=>(false,.bad)
def s_z120:List AV→Bool×AV
 | [df a0 _,dp a1 _]=>(true,(dh (z120 a0 a1) none))
 | _=>(false,.bad)
def s_z99:List AV→Bool×AV
 | [dp a0 _]=>(true,(de (z99 a0) none))
 | _=>(false,.bad)
def s_z77:List AV→Bool×AV
 | [dp a0 _,de a1 _]=>(true,(dh (z77 a0 a1) none))
 | _=>(false,.bad)
def s_z138:List AV→Bool×AV
 | [dp a0 _]=>(true,(.tup [(de ((z138 a0).1) none),(dh ((z138 a0).2) none)]))
 | _=>(false,.bad)
def s_z130:List AV→Bool×AV
 | [dp a0 _,dp a1 _]=>(true,(.tup [(dp ((z130 a0 a1).1) none),(dh ((z130 a0 a1).2) none)]))
 | _=>(false,.bad)
def s_z113:List AV→Bool×AV
 | [db a0 _,de a1 _,dp a2 _]=>(qqP a0 a1 a2,(.tup [(dp ((z113 a0 a1 a2).1) none),(dh ((z113 a0 a1 a2).2) none)]))
 | _=>(false,.bad)
def s_z93:List AV→Bool×AV
 | [db a0 _,.fn 94 [.pbox (.osl 5 .byte) a1 none]]=>((qdx a0 a1),.tup [(.tup []),.bad,(.pbox (.osl 5 .byte) (qIp a0 a1) none)])
 | _=>(false,.bad)
def s_z68:List AV→Bool×AV
 | [db a0 _]=>(qEn a0,(db (z68 a0) none))
 | _=>(false,.bad)
def s_z49:List AV→Bool×AV
 | [.dat (.pair (.sl .byte) (.pair (.int .i64) (.pair .bool (.pair (.sl .byte) .unit)))) a0 _]=>(qjr a0,(db (z49 a0) none))
 | _=>(false,.bad)
def s_z74:List AV→Bool×AV
 | [dm a0 _,de a1 _,.pbox (.osl 21 (.int .i32)) a2 none]=>((qCc a0 a1 a2),.tup [(.tup []),.bad,.bad,(.pbox (.osl 21 (.int .i32)) (z74 a0 a1 a2) none)])
 | _=>(false,.bad)
def s_z117:List AV→Bool×AV
 | [dp a0 _]=>(true,(de (z117 a0) none))
 | _=>(false,.bad)
def s_z131:List AV→Bool×AV
 | [dp a0 _]=>(true,(dh (z131 a0) none))
 | _=>(false,.bad)
def s_z132:List AV→Bool×AV
 | [dp a0 _,dp a1 _]=>(true,(dh (z132 a0 a1) none))
 | _=>(false,.bad)
def s_z116:List AV→Bool×AV
 | [db a0 _]=>(qjC a0,(de (z116 a0) none))
 | _=>(false,.bad)
def s_z118:List AV→Bool×AV
 | [de a0 _]=>(true,(dp (z118 a0) none))
 | _=>(false,.bad)
def s_z98:List AV→Bool×AV
 | [db a0 _]=>(qBU a0,(.tup [(dm ((z98 a0).1) none),(de ((z98 a0).2.1) none),(de ((z98 a0).2.2) none)]))
 | _=>(false,.bad)
def s_z73:List AV→Bool×AV
 | [db a0 _,.fn 74 [.pbox (.osl 21 (.int .i32)) a1 none]]=>((qdw a0 a1),.tup [(.tup []),.bad,(.pbox (.osl 21 (.int .i32)) (qIb a0 a1) none)])
 | _=>(false,.bad)
def s_z51:List AV→Bool×AV
 | [db a0 _]=>(qua a0,(.dat (.sl (.int .i32)) (z51 a0) none))
 | _=>(false,.bad)
def s_z72:List AV→Bool×AV
 | [db a0 _]=>(qub a0,(.dat (.sl (.int .i32)) (z72 a0) (some (2,21))))
 | _=>(false,.bad)
def s_z95:List AV→Bool×AV
 | [dm a0 _]=>(true,(dm (z95 a0) none))
 | _=>(false,.bad)
def s_z69:List AV→Bool×AV
 | [db a0 _]=>(qBX a0,(.dat (.sl (.int .i32)) (z69 a0) (some (2,21))))
 | _=>(false,.bad)
def s_z114:List AV→Bool×AV
 | []=>(true,(.dat (.arr 8 (.pair .byte (.pair (.int .i32) .unit))) z114 none))
 | _=>(false,.bad)
def s_z96:List AV→Bool×AV
 | [dp a0 _]=>(true,(dm (z96 a0) none))
 | _=>(false,.bad)
def s_z70:List AV→Bool×AV
 | [db a0 _]=>(qBV a0,(.dat (.sl (.int .i32)) (z70 a0) (some (2,21))))
 | _=>(false,.bad)
def s_z115:List AV→Bool×AV
 | []=>(true,(.dat (.sl (.int .i32)) z115 none))
 | _=>(false,.bad)
def s_z97:List AV→Bool×AV
 | [dp a0 _]=>(true,(dm (z97 a0) none))
 | _=>(false,.bad)
def s_z71:List AV→Bool×AV
 | [db a0 _]=>(qBW a0,(.dat (.sl (.int .i32)) (z71 a0) (some (2,21))))
 | _=>(false,.bad)
def s_z50:List AV→Bool×AV
 | [de a0 _,db a1 _]=>(qBY a0 a1,(.dat (.sl (.int .i32)) (z50 a0 a1) none))
 | _=>(false,.bad)
def s_z30:List AV→Bool×AV
 | [.dat (.sl (.pair (.sl .byte) (.pair (.int .i64) (.pair .bool (.pair (.sl .byte) .unit))))) a0 _]=>(quX a0,(.dat (.sl (.int .i32)) (z30 a0) none))
 | _=>(false,.bad)
def s_z14:List AV→Bool×AV
 | [.dat (.sl (.pair (.sl .byte) (.pair (.int .i64) (.pair .bool (.pair (.sl .byte) .unit))))) a0 _]=>(qpk a0,(.dat (.sl (.pair (.sl .byte) (.pair (.sl (.int .i32)) .unit))) (z14 a0) (some (2,31))))
 | _=>(false,.bad)
def s_z76:List AV→Bool×AV
 | [db a0 _,de a1 _]=>(true,(de (z76 a0 a1) none))
 | _=>(false,.bad)
def s_z100:List AV→Bool×AV
 | [.pbox (.ppair (.leaf (.int .i64)) (.ppair (.leaf (.int .i64)) (.ppair (.leaf .bool) (.leaf .unit)))) a0 none,dp a1 _]=>((qsq a0 a1),.tup [(dh ((z100 a0 a1).1) none),(.pbox (.ppair (.leaf (.int .i64)) (.ppair (.leaf (.int .i64)) (.ppair (.leaf .bool) (.leaf .unit)))) ((z100 a0 a1).2) none),.bad])
 | _=>(false,.bad)
def s_z78:List AV→Bool×AV
 | [db a0 _]=>(qEe a0,(.tup [(de ((z78 a0).1) none),(de ((z78 a0).2) none)]))
 | _=>(false,.bad)
def s_z54:List AV→Bool×AV
 | [db a0 _,de a1 _]=>(qiy a0 a1,(de (z54 a0 a1) none))
 | _=>(false,.bad)
def s_z75:List AV→Bool×AV
 | [db a0 _]=>(quU a0,(.tup [(db ((z75 a0).1) none),(de ((z75 a0).2.1) none),(de ((z75 a0).2.2) none)]))
 | _=>(false,.bad)
def s_z52:List AV→Bool×AV
 | [db a0 _]=>(quV a0,(de (z52 a0) none))
 | _=>(false,.bad)
def s_z31:List AV→Bool×AV
 | [db a0 _]=>(qEh a0,(.dat (.sl (.sl .byte)) (z31 a0) (some (2,22))))
 | _=>(false,.bad)
def s_z53:List AV→Bool×AV
 | [db a0 _,de a1 _]=>(qpj a0 a1,(.tup [(db ((z53 a0 a1).1) none),(de ((z53 a0 a1).2.1) none),(de ((z53 a0 a1).2.2) none)]))
 | _=>(false,.bad)
def s_z55:List AV→Bool×AV
 | [db a0 _,de a1 _,dp a2 _]=>(qEf a0 a1 a2,(.tup [(de ((z55 a0 a1 a2).1) none),(dh ((z55 a0 a1 a2).2) none)]))
 | _=>(false,.bad)
def s_z56:List AV→Bool×AV
 | [db a0 _,de a1 _]=>(qEg a0 a1,(.tup [(db ((z56 a0 a1).1) none),(de ((z56 a0 a1).2.1) none),(de ((z56 a0 a1).2.2) none)]))
 | _=>(false,.bad)
def s_z57:List AV→Bool×AV
 | [db a0 _]=>(qEk a0,(dh (z57 a0) none))
 | _=>(false,.bad)
def s_z101:List AV→Bool×AV
 | [db a0 _,de a1 _]=>(qqT a0 a1,(de (z101 a0 a1) none))
 | _=>(false,.bad)
def s_z79:List AV→Bool×AV
 | [db a0 _,de a1 _]=>(qud a0 a1,(dh (z79 a0 a1) none))
 | _=>(false,.bad)
def s_z102:List AV→Bool×AV
 | [db a0 _,db a1 _]=>(qqQ a0 a1,(dh (z102 a0 a1) none))
 | _=>(false,.bad)
def s_z80:List AV→Bool×AV
 | [db a0 _,db a1 _]=>(qEd a0 a1,(.tup [(db ((z80 a0 a1).1) none),(dh ((z80 a0 a1).2) none)]))
 | _=>(false,.bad)
def s_z81:List AV→Bool×AV
 | [db a0 _]=>(qEi a0,(de (z81 a0) none))
 | _=>(false,.bad)
def s_z58:List AV→Bool×AV
 | [db a0 _]=>(qEj a0,(.tup [(db ((z58 a0).1) none),(de ((z58 a0).2.1) none),(dh ((z58 a0).2.2) none)]))
 | _=>(false,.bad)
def s_z32:List AV→Bool×AV
 | [db a0 _]=>(qEl a0,(.tup [(.dat (.pair (.sl .byte) (.pair (.int .i64) (.pair .bool (.pair (.sl .byte) .unit)))) ((z32 a0).1) none),(de ((z32 a0).2) none)]))
 | _=>(false,.bad)
def s_z15:List AV→Bool×AV
 | [db a0 _]=>(qEm a0,(.dat (.sl (.pair (.sl .byte) (.pair (.int .i64) (.pair .bool (.pair (.sl .byte) .unit))))) (z15 a0) (some (2,59))))
 | _=>(false,.bad)
def s_z7:List AV→Bool×AV
 | [db a0 _]=>(z7_ok a0,(.dat (.sl (.pair (.sl .byte) (.pair (.sl (.int .i32)) .unit))) (z7 a0) (some (2,31))))
 | _=>(false,.bad)
def s_z10:List AV→Bool×AV
 | [.dat (.sl (.int .i32)) a0 _,.dat (.sl (.int .i32)) a1 _]=>(quc a0 a1,(dh (z10 a0 a1) none))
 | _=>(false,.bad)
def s_z18:List AV→Bool×AV
 | [.dat (.pair (.sl .byte) (.pair (.sl (.int .i32)) .unit)) a0 _,.pbox (.leaf (.sl .byte)) a1 none]=>((qyG a0 a1),.tup [(dh ((z18 a0 a1).1) none),.bad,(.pbox (.leaf (.sl .byte)) ((z18 a0 a1).2) none)])
 | _=>(false,.bad)
def s_z17:List AV→Bool×AV
 | [.dat (.sl (.pair (.sl .byte) (.pair (.sl (.int .i32)) .unit))) a0 _,.fn 18 [.pbox (.leaf (.sl .byte)) a1 none]]=>((qeT a0 a1),.tup [(de ((qiz a0 a1).1) none),.bad,(.pbox (.leaf (.sl .byte)) ((qiz a0 a1).2) none)])
 | _=>(false,.bad)
def s_z20:List AV→Bool×AV
 | [.dat (.sl (.int .i32)) a0 _]=>(qHU a0,(.dat (.sl (.int .i32)) (z20 a0) none))
 | _=>(false,.bad)
def s_z11:List AV→Bool×AV
 | [.dat (.sl (.pair (.sl .byte) (.pair (.sl (.int .i32)) .unit))) a0 _,db a1 _]=>(qEp a0 a1,(.tup [(.dat (.sl (.int .i32)) ((z11 a0 a1).1) none),(dh ((z11 a0 a1).2) none)]))
 | _=>(false,.bad)
def s_z5:List AV→Bool×AV
 | []=>(true,(dg z5))
 | _=>(false,.bad)
def s_z34:List AV→Bool×AV
 | [dm a0 _]=>(true,(dh (z34 a0) none))
 | _=>(false,.bad)
def s_z21:List AV→Bool×AV
 | [dm a0 _]=>(true,(dh (z21 a0) none))
 | _=>(false,.bad)
def s_z12:List AV→Bool×AV
 | [.dat (.sl (.int .i32)) a0 _]=>(qGa a0,(de (z12 a0) none))
 | _=>(false,.bad)
def s_z121:List AV→Bool×AV
 | [df a0 _,dp a1 _]=>(qGj a0 a1,(dh (z121 a0 a1) none))
 | _=>(false,.bad)
def s_z103:List AV→Bool×AV
 | [dp a0 _]=>(true,(de (z103 a0) none))
 | _=>(false,.bad)
def s_z82:List AV→Bool×AV
 | [dp a0 _,de a1 _]=>(true,(dh (z82 a0 a1) none))
 | _=>(false,.bad)
def s_z59:List AV→Bool×AV
 | [db a0 _,de a1 _]=>(quf a0 a1,(de (z59 a0 a1) none))
 | _=>(false,.bad)
def s_z35:List AV→Bool×AV
 | [db a0 _]=>(qFZ a0,(dh (z35 a0) none))
 | _=>(false,.bad)
def s_z22:List AV→Bool×AV
 | [db a0 _,.dat (.sl (.int .i32)) a1 _]=>(qmc a0 a1,(de (z22 a0 a1) none))
 | _=>(false,.bad)
def s_z36:List AV→Bool×AV
 | [.dat (.sl (.int .i32)) a0 _]=>(qGb a0,(dh (z36 a0) none))
 | _=>(false,.bad)
def s_z60:List AV→Bool×AV
 | [db a0 _]=>(qAY a0,(db (z60 a0) (some (2,5))))
 | _=>(false,.bad)
def s_z37:List AV→Bool×AV
 | [db a0 _]=>(qFY a0,(db (z37 a0) none))
 | _=>(false,.bad)
def s_z23:List AV→Bool×AV
 | [db a0 _,.dat (.sl (.int .i32)) a1 _]=>(qvy a0 a1,(db (z23 a0 a1) (some (4,5))))
 | _=>(false,.bad)
def s_z104:List AV→Bool×AV
 | [dp a0 _]=>(true,(dm (z104 a0) none))
 | _=>(false,.bad)
def s_z84:List AV→Bool×AV
 | [dm a0 _]=>(true,(.tup [(dp ((z84 a0).1) none),(dh ((z84 a0).2) none)]))
 | _=>(false,.bad)
def s_z105:List AV→Bool×AV
 | [dp a0 _]=>(true,(dm (z105 a0) none))
 | _=>(false,.bad)
def s_z85:List AV→Bool×AV
 | [dm a0 _]=>(true,(.tup [(dp ((z85 a0).1) none),(dh ((z85 a0).2) none)]))
 | _=>(false,.bad)
def s_z106:List AV→Bool×AV
 | [dp a0 _]=>(true,(dm (z106 a0) none))
 | _=>(false,.bad)
def s_z86:List AV→Bool×AV
 | [dm a0 _]=>(true,(.tup [(dp ((z86 a0).1) none),(dh ((z86 a0).2) none)]))
 | _=>(false,.bad)
def s_z83:List AV→Bool×AV
 | [de a0 _,dm a1 _]=>(true,(dh (z83 a0 a1) none))
 | _=>(false,.bad)
def s_z61:List AV→Bool×AV
 | [de a0 _,.dat (.sl (.int .i32)) a1 _]=>(qBO a0 a1,(de (z61 a0 a1) none))
 | _=>(false,.bad)
def s_z38:List AV→Bool×AV
 | [de a0 _,.dat (.sl (.int .i32)) a1 _]=>(qBP a0 a1,(dh (z38 a0 a1) none))
 | _=>(false,.bad)
def s_z24:List AV→Bool×AV
 | [.dat (.sl (.int .i32)) a0 _]=>(qtY a0,(.tup [(de ((z24 a0).1) none),(de ((z24 a0).2) none)]))
 | _=>(false,.bad)
def s_z87:List AV→Bool×AV
 | [dm a0 _]=>(true,(db (z87 a0) (some (2,5))))
 | _=>(false,.bad)
def s_z62:List AV→Bool×AV
 | [de a0 _,dm a1 _]=>(true,(db (z62 a0 a1) (some (4,5))))
 | _=>(false,.bad)
def s_z39:List AV→Bool×AV
 | [de a0 _,.dat (.sl (.int .i32)) a1 _]=>(qBT a0 a1,(.tup [(db ((z39 a0 a1).1) none),(de ((z39 a0 a1).2) none)]))
 | _=>(false,.bad)
def s_z107:List AV→Bool×AV
 | [de a0 _]=>(qdY a0,(dp (z107 a0) none))
 | _=>(false,.bad)
def s_z88:List AV→Bool×AV
 | [db a0 _,dp a1 _,dp a2 _]=>(qHZ a0 a1 a2,(db (z88 a0 a1 a2) (some (6,5))))
 | _=>(false,.bad)
def s_z63:List AV→Bool×AV
 | [dp a0 _]=>(true,(db (z63 a0) (some (2,5))))
 | _=>(false,.bad)
def s_z40:List AV→Bool×AV
 | [db a0 _]=>(qFX a0,(db (z40 a0) (some (2,5))))
 | _=>(false,.bad)
def s_z25:List AV→Bool×AV
 | [.dat (.sl (.int .i32)) a0 _]=>(qvz a0,(.tup [(.dat (.sl (.sl .byte)) ((z25 a0).1) none),(de ((z25 a0).2) none)]))
 | _=>(false,.bad)
def s_z64:List AV→Bool×AV
 | [de a0 _]=>(qBa a0,(df (z64 a0) none))
 | _=>(false,.bad)
def s_z41:List AV→Bool×AV
 | [.dat (.pair (.sl .byte) (.pair (.int .i64) (.pair .bool (.pair (.sl .byte) .unit)))) a0 _]=>(qvx a0,(db (z41 a0) (some (2,5))))
 | _=>(false,.bad)
def s_z26:List AV→Bool×AV
 | [db a0 _,de a1 _,df a2 _]=>(qgZ a0 a1 a2,(db (z26 a0 a1 a2) (some (6,5))))
 | _=>(false,.bad)
def s_z42:List AV→Bool×AV
 | [de a0 _]=>(true,(.dat (.sl .str) (z42 a0) (some (2,9))))
 | _=>(false,.bad)
def s_z27:List AV→Bool×AV
 | [de a0 _]=>(true,(df (z27 a0) none))
 | _=>(false,.bad)
def s_z13:List AV→Bool×AV
 | [db a0 _,.dat (.sl (.int .i32)) a1 _]=>(qBb a0 a1,(.tup [(.dat (.sl (.sl .byte)) ((z13 a0 a1).1) none),(de ((z13 a0 a1).2) none)]))
 | _=>(false,.bad)
def s_z6:List AV→Bool×AV
 | [db a0 _,.dat (.sl (.int .i32)) a1 _]=>(z6_ok a0 a1,(.tup [(db ((z6 a0 a1).1) none),(de ((z6 a0 a1).2) none)]))
 | _=>(false,.bad)
def s_z8:List AV→Bool×AV
 | [db a0 _,db a1 _]=>(z8_ok a0 a1,(dh (z8 a0 a1) none))
 | _=>(false,.bad)
def s_z16:List AV→Bool×AV
 | [dp a0 _]=>(true,(dp (z16 a0) none))
 | _=>(false,.bad)
def s_z9:List AV→Bool×AV
 | [db a0 _]=>(z9_ok a0,(db (z9 a0) (some (2,5))))
 | _=>(false,.bad)
def s_z3:List AV→Bool×AV
 | [db a0 _,.dat (.sl (.int .i32)) a1 _]=>(z3_ok a0 a1,(dh (z3 a0 a1) none))
 | _=>(false,.bad)
def s_digK (ok:Int→Bool):List AV→Bool×AV
 | [de a0 _]=>(ok a0,(df (digI a0) none))
 | _=>(false,.bad)
def E_dig (ok:Int→Bool):EnvP:=⟨⟨tiOf tis,fnsOf [(64,s_digK ok)],cnsOf [],[],17,(fun _=>none),(fun _=>none),some [2]⟩,fun _=>none,fun _=>none,fun _=>[],fun _=>none,fun _=>none,fun _=>none,fun _=>none⟩
theorem qxf:qf G Tryz.prog 142 s_z142:=fun w S hg vals avs r h hS ha=>by
 unfold s_z142 at h;split at h
 ·simp only [yb,true_and] at h;subst h;exact quY Tryz.func142 (by kernel_rfl) (by kernel_rfl) (by kernel_rfl) (by kernel_rfl) hS ha
 ·cases h
theorem qeS:qf G Tryz.prog 43 s_z43:=fun w S hg vals avs r h hS ha=>by
 unfold s_z43 at h;split at h
 ·obtain ⟨hp,rfl⟩:=yj h;exact qyI hS ha (qk hp)
 ·cases h
theorem qIm:qf G Tryz.prog 64 (s_digK fun _=>false):=fun w S hg vals avs r h hS ha=>by
 unfold s_digK at h;split at h
 ·simp only [yb] at h;cases h.1
 ·cases h
theorem qPv (ok:Int→Bool) (n:Nat) (n0:Int) (o0:Lab):evFnP (E_dig ok) n (Tryz.f64.body.getD .skip) Tryz.f64.results [de n0 o0]=qlt ok n0:=by
 kernel_rfl
theorem qqW (ok ok':Int→Bool) (h0:qf G Tryz.prog 64 (s_digK ok)) (hm:∀ n,ok' n=true→qlt ok n=qgE (digI n)):qf G Tryz.prog 64 (s_digK ok'):=by
 refine qM G_stays (E:=E_dig ok) (fn:=Tryz.f64) (c:=Tryz.f64.body.getD .skip) (qo rfl qcq) (fun w S hg=>⟨⟨(qa (h0 w S hg) qd),fun f sp h=>qaN f sp h w S⟩,qaU w S hg,(fun _ _ h=>by cases h),(fun f sp h=>qbz f sp h),(fun f it h=>qbA f it h),(fun t kt vt h=>qaP t kt vt h)⟩) follows Tryz.func64 (by kernel_rfl) (by kernel_rfl) (by kernel_rfl) ?_;intro avs r h;unfold s_digK at h;split at h
 ·obtain ⟨hp,rfl⟩:=yj h;exact ⟨0,_,(qPv ok 0 _ _).trans (hm _ hp),.inl rfl⟩
 ·cases h
theorem qCl:qf G Tryz.prog 64 s_z64:=fun w S hg vals avs r h hS ha=>by
 have h2:=qqW ok10 qBa (qqW (fun _=>false) ok10 qIm dig10) qRH;refine h2 w S hg vals avs r ?_ hS ha;unfold s_z64 at h;unfold s_digK;split at h
 ·exact h
 ·cases h
theorem qCm:qf G Tryz.prog 48 s_z48:=fun w S hg vals avs r h hS ha=>by
 unfold s_z48 at h;split at h
 ·obtain ⟨hp,rfl⟩:=yj h;exact qyJ hS ha (qk hp)
 ·cases h
theorem qCn:qf G Tryz.prog 20 s_z20:=fun w S hg vals avs r h hS ha=>by
 unfold s_z20 at h;split at h
 ·obtain ⟨hp,rfl⟩:=yj h;exact qyK hS ha (qk hp)
 ·cases h
theorem qxg:qf G Tryz.prog 111 s_z111:=fun w S hg vals avs r h hS ha=>by
 unfold s_z111 at h;split at h
 ·simp only [yb,true_and] at h;subst h;exact quZ hS ha
 ·cases h
theorem qxh:qf G Tryz.prog 128 s_z128:=fun w S hg vals avs r h hS ha=>by
 unfold s_z128 at h;split at h
 ·simp only [yb] at h;cases h.1
 ·cases h
theorem qxi:qf G Tryz.prog 129 s_z129:=fun w S hg vals avs r h hS ha=>by
 unfold s_z129 at h;split at h
 ·simp only [yb] at h;cases h.1
 ·cases h
def E_z44:EnvP:=eQ [] 12 (some [2]) nC nC nP
def C_z44:Code:=cO Tryz.f44
def R_z44:Array ResultVar:=Tryz.f44.results
theorem qPw (n:Nat) (c0:UInt8) (o0:Lab):evFnP E_z44 n C_z44 R_z44 [dp c0 o0]=qJu n c0:=by
 kernel_rfl
theorem qqX:qf G Tryz.prog 44 s_z44:=by
 refine sQ (E:=E_z44) (c:=C_z44) rfl (fun w S hg=>qd) Tryz.func44 ?_;intro avs r h;unfold s_z44 at h;split at h <;> cases h
 obtain ⟨n,hn⟩:=qLp _;exact ⟨n,_,(qPw n _ _).trans hn,.inl rfl⟩
def E_z28:EnvP:=eQ [(43,s_z43),(44,s_z44)] 22 (some [2]) (fun x=>if x=3 then some [3,8,9,10] else none) (fun x=>if x=0 then some [3] else if x=1 then some [3,8,9,10] else none) (fun x=>if x=7 then some (.psl 5 (.leaf .byte)) else none)
def C_z28:Code:=cO Tryz.f28
def R_z28:Array ResultVar:=Tryz.f28.results
noncomputable def qmT (K:Ex→Fr→OA):=fun out3=>K (.exit 0) (frOf [(3,(.pv (.psl 5 (.leaf .byte)) out3 none))])
def qqY (n:Nat):Ex→Fr→OA:=qw 0 (E_z28.cutb 0) (kSeq (evCP E_z28 (evLP E_z28 n) (sub C_z28 [1,1,1])) (kFnP E_z28 R_z28))
def qxj (out3:LU) (s9:Int) (s10:Int):Fr:=frOf [(3,(.pv (.psl 5 (.leaf .byte)) out3 none)),(8,(.pval 3 [])),(9,dc s9),(10,dc s10)]
theorem qCo (K:Ex→Fr→OA):∀ (n:Nat) (out3:LU) (s9:Int) (s10:Int),evLP E_z28 n (sub C_z28 [1,1,0,1,0,0]) K (qxj out3 s9 s10)=qlu (qmT K) n out3 s9 s10:=by
 intro n;induction n with
 | zero=>intros; rfl
 | succ n IH =>
 intro out3 s9 s10;have ih:(fun out3 s9 s10=>evLP E_z28 n (sub C_z28 [1,1,0,1,0,0]) K (qxj out3 s9 s10))=qlu (qmT K) n:=by
  funext out3 s9 s10;exact IH out3 s9 s10
 show _=qfP (qmT K) (qlu (qmT K) n) n out3 s9 s10;rw [← ih];kernel_rfl
theorem qug (n:Nat) (out3:LU):(qqY n) (.exit 0) (frOf [(3,(.pv (.psl 5 (.leaf .byte)) out3 none))])=qiE n out3:=by
 kernel_rfl
theorem qPx (n:Nat) (s0:LU) (o0:Lab):evFnP E_z28 n C_z28 R_z28 [db s0 o0]=qEJ n s0:=by
 unfold qEJ;rw [show qlu (qiE n) n=(fun out3 s9 s10=>evLP E_z28 n (sub C_z28 [1,1,0,1,0,0]) (qqY n) (qxj out3 s9 s10)) from by
  funext out3 s9 s10;refine Eq.trans ?_ (qCo (qqY n) n out3 s9 s10).symm;rw [show (qmT (qqY n))=(qiE n) from by
   funext out3;exact qug n out3]
  all_goals kernel_rfl]
 kernel_rfl
theorem qhk:qf G Tryz.prog 28 s_z28:=by
 refine sQ (E:=E_z28) (c:=C_z28) rfl (fun w S hg=>(qa (qeS w S hg) (qa (qqX w S hg) qd))) Tryz.func28 ?_;intro avs r h;unfold s_z28 at h;split at h
 ·obtain ⟨hp,rfl⟩:=yj h;obtain ⟨n,hn⟩:=qLq _ hp;exact ⟨n,_,(qPx n _ _).trans hn,.inl rfl⟩
 ·cases h
def E_z33:EnvP:=eQ [] 10 (some [4]) nC nC nP
def C_z33:Code:=cO Tryz.f33
def R_z33:Array ResultVar:=Tryz.f33.results
theorem qPy (n:Nat) (a0:LU) (o0:Lab) (b1:LU) (o1:Lab):evFnP E_z33 n C_z33 R_z33 [db a0 o0,db b1 o1]=qOE n a0 b1:=by
 kernel_rfl
theorem qqZ:qf G Tryz.prog 33 s_z33:=by
 refine sQ (E:=E_z33) (c:=C_z33) rfl (fun w S hg=>qd) Tryz.func33 ?_;intro avs r h;unfold s_z33 at h;split at h <;> cases h
 obtain ⟨n,hn⟩:=qLr _ _;exact ⟨n,_,(qPy n _ _ _ _).trans hn,.inl rfl⟩
def E_z19:EnvP:=eQ [(28,s_z28),(33,s_z33)] 10 (some [4]) nC nC nP
def C_z19:Code:=cO Tryz.f19
def R_z19:Array ResultVar:=Tryz.f19.results
theorem qPz (n:Nat) (a0:LU) (o0:Lab) (b1:LU) (o1:Lab):evFnP E_z19 n C_z19 R_z19 [db a0 o0,db b1 o1]=qJv n a0 b1:=by
 kernel_rfl
theorem qra:qf G Tryz.prog 19 s_z19:=by
 refine sQ (E:=E_z19) (c:=C_z19) rfl (fun w S hg=>(qa (qhk w S hg) (qa (qqZ w S hg) qd))) Tryz.func19 ?_;intro avs r h;unfold s_z19 at h;split at h
 ·obtain ⟨hp,rfl⟩:=yj h;obtain ⟨n,hn⟩:=qLH _ _ hp;exact ⟨n,_,(qPz n _ _ _ _).trans hn,.inl rfl⟩
 ·cases h
theorem qCp:qf G Tryz.prog 29 s_z29:=fun w S hg vals avs r h hS ha=>by
 unfold s_z29 at h;split at h
 ·obtain ⟨hp,rfl⟩:=yj h;exact qvu qra (fun _ _ _ _=>rfl) hS ha hp
 ·cases h
def E_z91:EnvP:=eQ [(111,s_z111)] 8 (some [4]) nC nC nP
def C_z91:Code:=cO Tryz.f91
def R_z91:Array ResultVar:=Tryz.f91.results
theorem qPA (n:Nat) (b0:LU) (o0:Lab) (c1:UInt8) (o1:Lab):evFnP E_z91 n C_z91 R_z91 [db b0 o0,dp c1 o1]=qOF n b0 c1:=by
 kernel_rfl
theorem qrb:qf G Tryz.prog 91 s_z91:=by
 refine sQ (E:=E_z91) (c:=C_z91) rfl (fun w S hg=>(qa (qxg w S hg) qd)) Tryz.func91 ?_;intro avs r h;unfold s_z91 at h;split at h <;> cases h
 obtain ⟨n,hn⟩:=qLt _ _;exact ⟨n,_,(qPA n _ _ _ _).trans hn,.inl rfl⟩
theorem qCq:qf G Tryz.prog 89 s_z89:=fun w S hg vals avs r h hS ha=>by
 unfold s_z89 at h;split at h
 ·obtain ⟨hp,rfl⟩:=yj h;exact qqd qrb (fun _ _ _ _=>rfl) hS ha hp
 ·cases h
def E_z65:EnvP:=eQ [(89,s_z89)] 23 (some [4,1000005,6]) nC nC nP
def C_z65:Code:=cO Tryz.f65
def R_z65:Array ResultVar:=Tryz.f65.results
theorem qPB (n:Nat) (s0:LU) (o0:Lab) (sep1:LU) (o1:Lab):evFnP E_z65 n C_z65 R_z65 [db s0 o0,db sep1 o1]=qJw n s0 sep1:=by
 kernel_rfl
theorem qrc:qf G Tryz.prog 65 s_z65:=by
 refine sQ (E:=E_z65) (c:=C_z65) rfl (fun w S hg=>(qa (qCq w S hg) qd)) Tryz.func65 ?_;intro avs r h;unfold s_z65 at h;split at h
 ·obtain ⟨hp,rfl⟩:=yj h;obtain ⟨n,hn⟩:=qLG _ _ hp;exact ⟨n,_,(qPB n _ _ _ _).trans hn,.inl rfl⟩
 ·cases h
def E_z46:EnvP:=eQ [(43,s_z43),(65,s_z65)] 33 (some [2,3,4]) nC nC nP
def C_z46:Code:=cO Tryz.f46
def R_z46:Array ResultVar:=Tryz.f46.results
theorem qPC (n:Nat) (value0:LU) (o0:Lab):evFnP E_z46 n C_z46 R_z46 [db value0 o0]=qJx n value0:=by
 kernel_rfl
theorem qCr:qf G Tryz.prog 46 s_z46:=by
 refine sQ (E:=E_z46) (c:=C_z46) rfl (fun w S hg=>(qa (qeS w S hg) (qa (qrc w S hg) qd))) Tryz.func46 ?_;intro avs r h;unfold s_z46 at h;split at h
 ·obtain ⟨hp,rfl⟩:=yj h;obtain ⟨n,hn⟩:=qIM _ hp;exact ⟨n,_,(qPC n _ _).trans hn,.inl rfl⟩
 ·cases h
def E_z90:EnvP:=eQ [] 19 (some [2]) nC (fun x=>if x=0 then some [] else none) nP
def C_z90:Code:=cO Tryz.f90
def R_z90:Array ResultVar:=Tryz.f90.results
theorem qPD (n:Nat) (charset0:Int) (o0:Lab):evFnP E_z90 n C_z90 R_z90 [de charset0 o0]=qJy n charset0:=by
 kernel_rfl
theorem qCs:qf G Tryz.prog 90 s_z90:=by
 refine sQ (E:=E_z90) (c:=C_z90) rfl (fun w S hg=>qd) Tryz.func90 ?_;intro avs r h;unfold s_z90 at h;split at h <;> cases h
 obtain ⟨n,hn⟩:=qKB _;exact ⟨n,_,(qPD n _ _).trans hn,.inl rfl⟩
def E_z66:EnvP:=⟨⟨tiOf tis,fnsOf [(90,s_z90)],cnsOf [],[],22,(fun x=>if x=3 then some [1,2] else if x=6 then some [1,2,11,12,13] else none),(fun x=>if x=0 then some [1] else if x=1 then some [1,2] else if x=2 then some [1,2] else if x=3 then some [1,2,11,12,13] else none),none⟩,fun _=>none,fun _=>none,fun _=>[],fun _=>none,fun _=>none,fun _=>none,(fun x=>if x=97 then some (9,3) else none)⟩
def C_z66:Code:=cO Tryz.f66
def R_z66:Array ResultVar:=Tryz.f66.results
def qgB (m1:List (LU×Int)) (n2:Int):Fr:=frOf [(1,(.abs (.sl (.pair .str (.int .i64))) (qfD .str (.int .i64)) m1)),(2,dc n2)]
noncomputable def qmU (K:Ex→Fr→OA):=fun m1 n2=>K (.exit 2) (qgB m1 n2)
noncomputable def qio (K:Ex→Fr→OA):=fun m1=>K (.exit 0) (frOf [(1,(.abs (.sl (.pair .str (.int .i64))) (qfD .str (.int .i64)) m1))])
def qrd (n:Nat) (K:Ex→Fr→OA):Ex→Fr→OA:=qw 2 (E_z66.cutb 2) (qw 1 (E_z66.cutb 1) (kSeq (evCP E_z66 (evLP E_z66 n) (sub C_z66 [1,1,0,1,0,0,1,1])) (kSeq (fun K fr=>evLP E_z66 n (sub C_z66 [1,1,0,1,0,0]) K (cutFP (E_z66.cuts 3) fr)) K)))
def qre (n:Nat):Ex→Fr→OA:=qw 0 (E_z66.cutb 0) (kSeq (evCP E_z66 (evLP E_z66 n) (sub C_z66 [1,1,1])) (kFnR R_z66))
def qxk (m1:List (LU×Int)) (n2:Int) (s11:List LU) (s12:Int) (s13:Int):Fr:=frOf [(1,(.abs (.sl (.pair .str (.int .i64))) (qfD .str (.int .i64)) m1)),(2,dc n2),(11,(.dat (.sl .str) s11 (some (11,9)))),(12,dc s12),(13,dc s13)]
theorem qCt (K:Ex→Fr→OA):∀ (n:Nat) (m1:List (LU×Int)) (n2:Int) (s11:List LU) (s12:Int) (s13:Int),evLP E_z66 n (sub C_z66 [1,1,0,1,0,0,1,0,0,1,0,0]) K (qxk m1 n2 s11 s12 s13)=qvi (qmU K) n m1 n2 s11 s12 s13:=by
 intro n;induction n with
 | zero=>intros; rfl
 | succ n IH =>
 intro m1 n2 s11 s12 s13;have ih:(fun m1 n2 s11 s12 s13=>evLP E_z66 n (sub C_z66 [1,1,0,1,0,0,1,0,0,1,0,0]) K (qxk m1 n2 s11 s12 s13))=qvi (qmU K) n:=by
  funext m1 n2 s11 s12 s13;exact IH m1 n2 s11 s12 s13
 show _=qzq (qmU K) (qvi (qmU K) n) n m1 n2 s11 s12 s13;rw [← ih];kernel_rfl
theorem quh (K:Ex→Fr→OA) (n:Nat) (m1:List (LU×Int)) (n2:Int):(qrd n K) (.exit 2) (qgB m1 n2)=qlv (fun m1=>K (.exit 0) (frOf [(1,(.abs (.sl (.pair .str (.int .i64))) (qfD .str (.int .i64)) m1))])) (fun m1 n2=>evLP E_z66 n (sub C_z66 [1,1,0,1,0,0]) K (qgB m1 n2)) n m1 n2:=by
 kernel_rfl
theorem qCu (K:Ex→Fr→OA):∀ (n:Nat) (m1:List (LU×Int)) (n2:Int),evLP E_z66 n (sub C_z66 [1,1,0,1,0,0]) K (qgB m1 n2)=qvj (qio K) n m1 n2:=by
 intro n;induction n with
 | zero=>intros; rfl
 | succ n IH =>
 intro m1 n2;have ih:(fun m1 n2=>evLP E_z66 n (sub C_z66 [1,1,0,1,0,0]) K (qgB m1 n2))=qvj (qio K) n:=by
  funext m1 n2;exact IH m1 n2
 show _=qpw (qio K) (qvj (qio K) n) n m1 n2;rw [← ih];unfold qpw;rw [show qvi (qlv (qio K) (fun m1 n2=>evLP E_z66 n (sub C_z66 [1,1,0,1,0,0]) K (qgB m1 n2)) n) n=(fun m1 n2 s11 s12 s13=>evLP E_z66 n (sub C_z66 [1,1,0,1,0,0,1,0,0,1,0,0]) (qrd n K) (qxk m1 n2 s11 s12 s13)) from by
  funext m1 n2 s11 s12 s13;refine Eq.trans ?_ (qCt (qrd n K) n m1 n2 s11 s12 s13).symm;rw [show (qmU (qrd n K))=(qlv (qio K) (fun m1 n2=>evLP E_z66 n (sub C_z66 [1,1,0,1,0,0]) K (qgB m1 n2)) n) from by
   funext m1 n2;exact quh K n m1 n2]
  all_goals kernel_rfl]
 kernel_rfl
theorem qui (n:Nat) (m1:List (LU×Int)):(qre n) (.exit 0) (frOf [(1,(.abs (.sl (.pair .str (.int .i64))) (qfD .str (.int .i64)) m1))])=qlw n m1:=by
 kernel_rfl
theorem qPE (n:Nat)  : evFnR E_z66 n C_z66 R_z66 []=qJz n  := by
 unfold qJz;rw [show qvj (qlw n) n=(fun m1 n2=>evLP E_z66 n (sub C_z66 [1,1,0,1,0,0]) (qre n) (qgB m1 n2)) from by
  funext m1 n2;refine Eq.trans ?_ (qCu (qre n) n m1 n2).symm;rw [show (qio (qre n))=(qlw n) from by
   funext m1;exact qui n m1]
  all_goals kernel_rfl]
 kernel_rfl
theorem qCv:qMo G Tryz.prog 66 s_z66:=by
 refine qom G_stays (E:=E_z66) (fn:=Tryz.f66) (c:=C_z66) (qo rfl qcq) (fun w S hg=>⟨⟨(qa (qCs w S hg) qd),fun f sp h=>qaN f sp h w S⟩,qaU w S hg,(fun _ _ h=>by cases h),(fun f sp h=>qbz f sp h),(fun f it h=>qbA f it h),(fun t kt vt h=>(qon (by kernel_rfl) qaP) t kt vt h)⟩) follows Tryz.func66 (by kernel_rfl) (by kernel_rfl) (by kernel_rfl) ?_;intro avs r h;unfold s_z66 at h;split at h <;> cases h
 obtain ⟨n,hn⟩:=qLB;exact ⟨n,(qPE n ).trans hn⟩
def qkN:EnvP:=eQ [] 21 (some [1000004]) (fun x=>if x=1 then some [0,1] else none) (fun x=>if x=0 then some [0] else if x=1 then some [0,1] else none) nP
def quj:Code:=cO Tryz.f123
def qMB:Array ResultVar:=Tryz.f123.results
noncomputable def qip (K:Ex→Fr→OA):=fun s0=>K (.exit 0) (frOf [(0,da s0)])
def qkO (n:Nat):Ex→Fr→OA:=qw 0 (qkN.cutb 0) (kSeq (evCP qkN (evLP qkN n) (sub quj [1,1])) (kFnP qkN qMB))
def qoN (s0:LU) (c1:UInt8):Fr:=frOf [(0,da s0),(1,dn c1)]
theorem qxl (K:Ex→Fr→OA):∀ (n:Nat) (s0:LU) (c1:UInt8),evLP qkN n (sub quj [1,0,0,0]) K (qoN s0 c1)=qjO (qip K) n s0 c1:=by
 intro n;induction n with
 | zero=>intros; rfl
 | succ n IH =>
 intro s0 c1;have ih:(fun s0 c1=>evLP qkN n (sub quj [1,0,0,0]) K (qoN s0 c1))=qjO (qip K) n:=by
  funext s0 c1;exact IH s0 c1
 show _=qsO (qip K) (qjO (qip K) n) n s0 c1;rw [← ih];kernel_rfl
theorem qoO (n:Nat) (s0:LU):(qkO n) (.exit 0) (frOf [(0,da s0)])=qhu n s0:=by
 kernel_rfl
theorem qMC (n:Nat) (s0:LU) (o0:Lab) (c1:UInt8) (o1:Lab):evFnP qkN n quj qMB [db s0 o0,dp c1 o1]=qzr n s0 c1:=by
 unfold qzr;rw [show qjO (qhu n) n=(fun s0 c1=>evLP qkN n (sub quj [1,0,0,0]) (qkO n) (qoN s0 c1)) from by
  funext s0 c1;refine Eq.trans ?_ (qxl (qkO n) n s0 c1).symm;rw [show (qip (qkO n))=(qhu n) from by
   funext s0;exact qoO n s0]
  all_goals kernel_rfl]
 kernel_rfl
theorem qxm:qf G Tryz.prog 123 s_z123:=by
 refine sQ (E:=qkN) (c:=quj) rfl (fun w S hg=>qd) Tryz.func123 ?_;intro avs r h;unfold s_z123 at h;split at h
 ·obtain ⟨hp,rfl⟩:=yj h;obtain ⟨n,hn⟩:=qFE _ _ hp;exact ⟨n,_,(qMC n _ _ _ _).trans hn,.inl rfl⟩
 ·cases h
def qkP:EnvP:=eQ [] 24 (some [4]) (fun x=>if x=1 then some [0,1] else none) (fun x=>if x=0 then some [0] else if x=1 then some [0,1] else none) nP
def quk:Code:=cO Tryz.f124
def qMD:Array ResultVar:=Tryz.f124.results
noncomputable def qiq (K:Ex→Fr→OA):=fun s0=>K (.exit 0) (frOf [(0,da s0)])
def qkQ (n:Nat):Ex→Fr→OA:=qw 0 (qkP.cutb 0) (kSeq (evCP qkP (evLP qkP n) (sub quk [1,1])) (kFnP qkP qMD))
def qoP (s0:LU) (c1:UInt8):Fr:=frOf [(0,da s0),(1,dn c1)]
theorem qxn (K:Ex→Fr→OA):∀ (n:Nat) (s0:LU) (c1:UInt8),evLP qkP n (sub quk [1,0,0,0]) K (qoP s0 c1)=qjP (qiq K) n s0 c1:=by
 intro n;induction n with
 | zero=>intros; rfl
 | succ n IH =>
 intro s0 c1;have ih:(fun s0 c1=>evLP qkP n (sub quk [1,0,0,0]) K (qoP s0 c1))=qjP (qiq K) n:=by
  funext s0 c1;exact IH s0 c1
 show _=qsP (qiq K) (qjP (qiq K) n) n s0 c1;rw [← ih];kernel_rfl
theorem qoQ (n:Nat) (s0:LU):(qkQ n) (.exit 0) (frOf [(0,da s0)])=qhv n s0:=by
 kernel_rfl
theorem qME (n:Nat) (s0:LU) (o0:Lab) (c1:UInt8) (o1:Lab):evFnP qkP n quk qMD [db s0 o0,dp c1 o1]=qzt n s0 c1:=by
 unfold qzt;rw [show qjP (qhv n) n=(fun s0 c1=>evLP qkP n (sub quk [1,0,0,0]) (qkQ n) (qoP s0 c1)) from by
  funext s0 c1;refine Eq.trans ?_ (qxn (qkQ n) n s0 c1).symm;rw [show (qiq (qkQ n))=(qhv n) from by
   funext s0;exact qoQ n s0]
  all_goals kernel_rfl]
 kernel_rfl
theorem qxo:qf G Tryz.prog 124 s_z124:=by
 refine sQ (E:=qkP) (c:=quk) rfl (fun w S hg=>qd) Tryz.func124 ?_;intro avs r h;unfold s_z124 at h;split at h
 ·obtain ⟨hp,rfl⟩:=yj h;obtain ⟨n,hn⟩:=qFF _ _ hp;exact ⟨n,_,(qME n _ _ _ _).trans hn,.inl rfl⟩
 ·cases h
end
end Go.Av
