import Derived.Test.YtabdohophompiaaGreatDoorPxP6
import Derived.Test.YtabdohophompiaaGreatDoorPxN
import Derived.Test.YtabdohophompiaaGreatDoorProg
import Derived.KernelRfl
namespace Go.Av
set_option linter.unusedSimpArgs false
noncomputable section
open Go.Proofs
set_option maxRecDepth 100000
set_option linter.unusedVariables false
def tis:List (TypeId×TI):=[(2,⟨some (.int .i64),8,0⟩),
 (3,⟨some (.int .i64),8,0⟩),
 (4,⟨some .bool,1,0⟩),
 (5,⟨some .byte,1,0⟩),
 (6,⟨some .byte,1,0⟩),
 (7,⟨some (.pair (.int .i64) (.pair (.int .i64) (.pair .bool (.pair .byte .unit)))),24,0⟩),
 (8,⟨some (.pair (.int .i64) (.pair (.int .i64) (.pair .bool (.pair .byte .unit)))),24,0⟩),
 (9,⟨some .str,16,0⟩),
 (10,⟨some .str,16,0⟩),
 (11,⟨some .str,16,0⟩),
 (12,⟨some (.int .u64),8,0⟩),
 (13,⟨some (.pair .str (.pair (.int .u64) .unit)),24,0⟩),
 (14,⟨some (.pair .str (.pair (.int .u64) .unit)),24,0⟩),
 (21,⟨some (.int .i32),4,0⟩),
 (22,⟨some (.sl .byte),24,5⟩),
 (23,⟨some (.sl (.int .i32)),24,21⟩),
 (25,⟨some (.int .i64),8,0⟩),
 (30,⟨some (.sl (.sl .byte)),24,22⟩),
 (42,⟨some (.sl (.pair (.sl .byte) (.pair (.int .i64) (.pair .bool (.pair (.sl .byte) .unit))))),24,46⟩),
 (45,⟨some (.pair (.sl .byte) (.pair (.int .i64) (.pair .bool (.pair (.sl .byte) .unit)))),64,0⟩),
 (46,⟨some (.pair (.sl .byte) (.pair (.int .i64) (.pair .bool (.pair (.sl .byte) .unit)))),64,0⟩),
 (79,⟨some (.pair (.sl .byte) (.pair (.int .i64) (.pair .bool (.pair (.sl .byte) .unit)))),64,0⟩),
 (84,⟨some (.sl .str),24,9⟩),
 (96,⟨some (.int .u64),8,0⟩),
 (110,⟨some (.int .u32),4,0⟩),
 (112,⟨some (.int .u64),8,0⟩),
 (118,⟨some (.arr 32 .byte),32,5⟩),
 (119,⟨some (.arr 64 .byte),64,5⟩),
 (120,⟨some (.pair .byte (.pair (.int .i32) .unit)),8,0⟩),
 (121,⟨some (.pair .byte (.pair (.int .i32) .unit)),8,0⟩),
 (122,⟨some (.arr 8 (.pair .byte (.pair (.int .i32) .unit))),64,121⟩),
 (126,⟨some (.arr 32 (.int .i32)),128,21⟩),
 (127,⟨some (.arr 24 .byte),24,5⟩),
 (133,⟨some (.arr 20 (.int .u64)),160,112⟩),
 (134,⟨some (.arr 65 .byte),65,5⟩),
 (143,⟨some .byte,1,0⟩),
 (144,⟨some .byte,1,0⟩),
 (147,⟨some (.int .i32),4,0⟩),
 (148,⟨some (.int .i32),4,0⟩)]
theorem qdE:(tis.all fun p=>tyB Tryz.prog (tiOf tis) p.1)=true:=by kernel_rfl
theorem follows:Tryz.prog.follows .mixedOrders=true:=by kernel_rfl
abbrev FnL:=List (FuncId×(List AV→Bool×AV))
abbrev CutL:=Nat→Option (List Nat)
def eQ (l:FnL) (nt:Nat) (r:Option (List Nat)) (a b:CutL) (p:Nat→Option PSh):EnvP:=⟨⟨tiOf tis,fnsOf l,cnsOf [],[],nt,a,b,r⟩,p,fun _=>none,fun _=>[],fun _=>none,fun _=>none,fun _=>none,fun _=>none⟩
def cO (f:Func):Code:=f.body.getD .skip
def nC:CutL:=fun _=>none
def nP:Nat→Option PSh:=fun _=>none
theorem sQ {E:EnvP} {l:FnL} {nt:Nat} {r:Option (List Nat)} {a b:CutL} {p:Nat→Option PSh} {f:FuncId} {fn:Func} {c:Code} {spec:List AV→Bool×AV} (hE:E=eQ l nt r a b p) (hl:∀ w S,G w S→∀ f,qbs Tryz.prog f (fnsOf l f) w S)
 (hf:Tryz.prog.funcs[f]? = some fn) (hspec:∀ avs r',spec avs=(true,r')→∃ n v,evFnP E n c fn.results avs=some v∧(v=r'∨v.strip=r')) (hb:fn.body=some c:=by kernel_rfl) (hnt:fn.ntmps=nt:=by kernel_rfl) (hname:(fn.name == "runtime.NumGoroutine")=false:=by kernel_rfl):qe G Tryz.prog f spec:=by
 subst hE;exact qJ G_stays (E:=eQ l nt r a b p) (qo rfl qdE) (fun w S hg=>⟨⟨hl w S hg,fun f sp h=>qbr f sp h w S⟩,qdG w S hg,(fun _ _ h=>by cases h),(fun f sp h=>qfT f sp h),(fun f it h=>qfU f it h),(fun t kt vt h=>qcE t kt vt h)⟩) follows hf hb hnt hname hspec
def s_z105:List AV→Bool×AV
 | [di a0 _]=>(true,(dh (z105 a0) none))
 | _=>(false,.bad)
def s_z130:List AV→Bool×AV
 | []=>(true,(.dat (.arr 8 (.pair .byte (.pair (.int .i32) .unit))) z130 none))
 | _=>(false,.bad)
def s_z113:List AV→Bool×AV
 | [di a0 _]=>(true,(.tup [(dn ((z113 a0).1) none),(dh ((z113 a0).2) none)]))
 | _=>(false,.bad)
def s_z106:List AV→Bool×AV
 | [di a0 _]=>(true,(dh (z106 a0) none))
 | _=>(false,.bad)
def s_z89:List AV→Bool×AV
 | [.dat (.sl (.int .i32)) a0 _,di a1 _]=>(qpR a0 a1,(de (z89 a0 a1) none))
 | _=>(false,.bad)
def s_z131:List AV→Bool×AV
 | []=>(true,(.dat (.sl (.int .i32)) z131 none))
 | _=>(false,.bad)
def s_z115:List AV→Bool×AV
 | [di a0 _]=>(true,(.tup [(dn ((z115 a0).1) none),(dh ((z115 a0).2) none)]))
 | _=>(false,.bad)
def s_z107:List AV→Bool×AV
 | [di a0 _]=>(true,(dh (z107 a0) none))
 | _=>(false,.bad)
def s_z127:List AV→Bool×AV
 | [di a0 _]=>(true,(dh (z127 a0) none))
 | _=>(false,.bad)
def s_z108:List AV→Bool×AV
 | [di a0 _]=>(true,(dh (z108 a0) none))
 | _=>(false,.bad)
def s_z72:List AV→Bool×AV
 | [de a0 _,di a1 _]=>(true,(dh (z72 a0 a1) none))
 | _=>(false,.bad)
def s_z42:List AV→Bool×AV
 | [di a0 _]=>(true,(de (z42 a0) none))
 | _=>(false,.bad)
def s_z110:List AV→Bool×AV
 | [.dat (.int .u64) a0 _]=>(qso a0,(de (z110 a0) none))
 | _=>(false,.bad)
def s_z73:List AV→Bool×AV
 | [.dat (.int .u64) a0 _]=>(qwk a0,(de (z73 a0) none))
 | _=>(false,.bad)
def s_z43:List AV→Bool×AV
 | [de a0 _]=>(qwl a0,(de (z43 a0) none))
 | _=>(false,.bad)
def s_z22:List AV→Bool×AV
 | [.dat (.sl (.int .i32)) a0 _]=>(qpO a0,(.tup [(de ((z22 a0).1) none),(de ((z22 a0).2) none)]))
 | _=>(false,.bad)
def s_z92:List AV→Bool×AV
 | [.dat (.sl (.int .i32)) a0 _]=>(qwt a0,(de (z92 a0) none))
 | _=>(false,.bad)
def s_z52:List AV→Bool×AV
 | [.dat (.sl (.int .i32)) a0 _]=>(qpT a0,(.tup [(db ((z52 a0).1) none),(de ((z52 a0).2) none)]))
 | _=>(false,.bad)
def s_z74:List AV→Bool×AV
 | [de a0 _]=>(true,(de (z74 a0) none))
 | _=>(false,.bad)
def s_z111:List AV→Bool×AV
 | [de a0 _,.dat (.sl (.int .i32)) a1 _]=>(qnr a0 a1,(de (z111 a0 a1) none))
 | _=>(false,.bad)
def s_z75:List AV→Bool×AV
 | [de a0 _,.dat (.sl (.int .i32)) a1 _]=>(qwx a0 a1,(dh (z75 a0 a1) none))
 | _=>(false,.bad)
def s_z91:List AV→Bool×AV
 | [di a0 _]=>(true,(dh (z91 a0) none))
 | _=>(false,.bad)
def s_z122:List AV→Bool×AV
 | [di a0 _]=>(true,(dh (z122 a0) none))
 | _=>(false,.bad)
def s_z121:List AV→Bool×AV
 | [.dat (.sl (.int .i32)) a0 _,.fn f []]=>bif f==122 then (qcL a0,de (z121 a0) none) else bif f==91 then (qcL a0,de (qq a0) none) else (false,.bad)
 | _=>(false,.bad)
def s_z121_v0:List AV→Bool×AV
 | [.dat (.sl (.int .i32)) a0 _,.fn 122 []]=>(qcL a0,de (z121 a0) none)
 | _=>(false,.bad)
def s_z121_v1:List AV→Bool×AV
 | [.dat (.sl (.int .i32)) a0 _,.fn 91 []]=>(qcL a0,de (qq a0) none)
 | _=>(false,.bad)
def s_z88:List AV→Bool×AV
 | [.dat (.sl (.int .i32)) a0 _]=>(qws a0,(de (z88 a0) none))
 | _=>(false,.bad)
def s_z49:List AV→Bool×AV
 | [.dat (.sl (.int .i32)) a0 _]=>(qpS a0,(dh (z49 a0) none))
 | _=>(false,.bad)
def s_z53:List AV→Bool×AV
 | [db a0 _]=>(qgB a0,(db (z53 a0) (some (0,5))))
 | _=>(false,.bad)
def s_z128:List AV→Bool×AV
 | [di a0 _]=>(true,(de (z128 a0) none))
 | _=>(false,.bad)
def s_z129:List AV→Bool×AV
 | [de a0 _]=>(true,(dn (z129 a0) none))
 | _=>(false,.bad)
def s_z112:List AV→Bool×AV
 | [db a0 _,di a1 _]=>(qnp a0 a1,(.tup [(db ((z112 a0 a1).1) none),(de ((z112 a0 a1).2) none)]))
 | _=>(false,.bad)
def s_z76:List AV→Bool×AV
 | [.dat (.sl (.int .i32)) a0 _]=>(qww a0,(.tup [(db ((z76 a0).1) none),(de ((z76 a0).2) none)]))
 | _=>(false,.bad)
def s_z77:List AV→Bool×AV
 | [.dat (.sl (.int .i32)) a0 _]=>(qwu a0,(.tup [(db ((z77 a0).1) none),(de ((z77 a0).2) none)]))
 | _=>(false,.bad)
def s_z114:List AV→Bool×AV
 | [.dat (.sl (.int .i32)) a0 _]=>(qnq a0,(de (z114 a0) none))
 | _=>(false,.bad)
def s_z78:List AV→Bool×AV
 | [.dat (.sl (.int .i32)) a0 _]=>(qwv a0,(.tup [(db ((z78 a0).1) none),(de ((z78 a0).2) none)]))
 | _=>(false,.bad)
def s_z44:List AV→Bool×AV
 | [de a0 _,.dat (.sl (.int .i32)) a1 _]=>(qwy a0 a1,(.tup [(db ((z44 a0 a1).1) none),(de ((z44 a0 a1).2) none)]))
 | _=>(false,.bad)
def s_z134:List AV→Bool×AV
 | [dn a0 _]=>(true,(de (z134 a0) none))
 | _=>(false,.bad)
def s_z146:List AV→Bool×AV
 | [df a0 _,dn a1 _]=>(true,(de (z146 a0 a1) none))
 | _=>(false,.bad)
def s_z145:List AV→Bool×AV
 | [df a0 _,dn a1 _]=>(true,(de (z145 a0 a1) none))
 | _=>(false,.bad)
def s_z140:List AV→Bool×AV
 | [df a0 _,dn a1 _]=>(true,(de (z140 a0 a1) none))
 | _=>(false,.bad)
def s_z135:List AV→Bool×AV
 | [df a0 _,dn a1 _]=>(true,(dh (z135 a0 a1) none))
 | _=>(false,.bad)
def s_z125:List AV→Bool×AV
 | [dn a0 _]=>(true,(de (z125 a0) none))
 | _=>(false,.bad)
def s_z100:List AV→Bool×AV
 | [dn a0 _,de a1 _]=>(true,(dh (z100 a0 a1) none))
 | _=>(false,.bad)
def s_z79:List AV→Bool×AV
 | [dn a0 _]=>(true,(de (z79 a0) none))
 | _=>(false,.bad)
def s_z132:List AV→Bool×AV
 | [de a0 _]=>(qcJ a0,(dn (z132 a0) none))
 | _=>(false,.bad)
def s_z116:List AV→Bool×AV
 | [dn a0 _]=>(true,(db (z116 a0) (some (2,5))))
 | _=>(false,.bad)
def s_z80:List AV→Bool×AV
 | [db a0 _,dn a1 _,dn a2 _]=>(qwr a0 a1 a2,(db (z80 a0 a1 a2) (some (6,5))))
 | _=>(false,.bad)
def s_z45:List AV→Bool×AV
 | [db a0 _]=>(qyd a0,(db (z45 a0) (some (2,5))))
 | _=>(false,.bad)
def s_z23:List AV→Bool×AV
 | [de a0 _,.dat (.sl (.int .i32)) a1 _]=>(qqM a0 a1,(.dat (.sl (.sl .byte)) (z23 a0 a1) (some (4,22))))
 | _=>(false,.bad)
def s_z64:List AV→Bool×AV
 | [db a0 _,de a1 _]=>(qwB a0 a1,(de (z64 a0 a1) none))
 | _=>(false,.bad)
def s_z36:List AV→Bool×AV
 | [db a0 _,de a1 _]=>(qpW a0 a1,(dh (z36 a0 a1) none))
 | _=>(false,.bad)
def s_z18:List AV→Bool×AV
 | [db a0 _]=>(qqJ a0,(dh (z18 a0) none))
 | _=>(false,.bad)
def s_z50:List AV→Bool×AV
 | [.dat (.sl (.int .i32)) a0 _,di a1 _]=>(qyk a0 a1,(dh (z50 a0 a1) none))
 | _=>(false,.bad)
def s_z27:List AV→Bool×AV
 | [db a0 _,.dat (.sl (.int .i32)) a1 _]=>(qiQ a0 a1,(de (z27 a0 a1) none))
 | _=>(false,.bad)
def s_z90:List AV→Bool×AV
 | [.dat (.sl (.int .i32)) a0 _,.fn 91 []]=>(qyl a0,(dh (z90 a0) none))
 | _=>(false,.bad)
def s_z51:List AV→Bool×AV
 | [.dat (.sl (.int .i32)) a0 _]=>(qym a0,(dh (z51 a0) none))
 | _=>(false,.bad)
def s_z93:List AV→Bool×AV
 | [db a0 _]=>(qyg a0,(dh (z93 a0) none))
 | _=>(false,.bad)
def s_z94:List AV→Bool×AV
 | [db a0 _]=>(qyf a0,(db (z94 a0) (some (2,5))))
 | _=>(false,.bad)
def s_z54:List AV→Bool×AV
 | [db a0 _]=>(qyh a0,(db (z54 a0) (some (2,5))))
 | _=>(false,.bad)
def s_z28:List AV→Bool×AV
 | [db a0 _,.dat (.sl (.int .i32)) a1 _]=>(qkE a0 a1,(.tup [(db ((z28 a0 a1).1) none),(dh ((z28 a0 a1).2) none)]))
 | _=>(false,.bad)
def s_z136:List AV→Bool×AV
 | [de a0 _]=>(qoO a0,(df (z136 a0) none))
 | _=>(false,.bad)
def s_z137:List AV→Bool×AV
 | [.dat (.int .u64) a0 _]=>(false,(de (z137 a0) none))
 | _=>(false,.bad)
def s_z139:List AV→Bool×AV
 | [db a0 _,.dat (.int .u64) a1 _,de a2 _,dh a3 _,dh a4 _]=>(false,(.tup [(db ((z139 a0 a1 a2 a3 a4)).1 none),(df ((z139 a0 a1 a2 a3 a4)).2 none)]))
 | _=>(false,.bad)
def s_z133:List AV→Bool×AV
 | [db a0 (some (0,5)),.dat (.int .u64) a1 _,de a2 _]=>(qhF a0 a1 a2,(db (z133 a0 a1 a2) (some (6,5))))
 | _=>(false,.bad)
def s_z123:List AV→Bool×AV
 | [db a0 (some (0,5)),de a1 _,de a2 _]=>(qkD a0 a1 a2,(db (z123 a0 a1 a2) (some (6,5))))
 | _=>(false,.bad)
def s_z95:List AV→Bool×AV
 | [db a0 (some (0,5)),de a1 _,de a2 _]=>(qtN a0 a1 a2,(db (z95 a0 a1 a2) (some (6,5))))
 | _=>(false,.bad)
def s_z55:List AV→Bool×AV
 | [.dat (.pair (.sl .byte) (.pair (.int .i64) (.pair .bool (.pair (.sl .byte) .unit)))) a0 _]=>(qtP a0,(db (z55 a0) (some (2,5))))
 | _=>(false,.bad)
def s_z96:List AV→Bool×AV
 | [de a0 _]=>(true,(.dat (.sl .str) (z96 a0) (some (2,9))))
 | _=>(false,.bad)
def s_z56:List AV→Bool×AV
 | [de a0 _]=>(true,(df (z56 a0) none))
 | _=>(false,.bad)
def s_z29:List AV→Bool×AV
 | [db a0 _,de a1 _,de a2 _]=>(qfx a0 a1 a2,(db (z29 a0 a1 a2) (some (6,5))))
 | _=>(false,.bad)
def s_z30:List AV→Bool×AV
 | [.dat (.sl (.sl .byte)) a0 _,db a1 _]=>(qpQ a0 a1,(db (z30 a0 a1) none))
 | _=>(false,.bad)
def s_z58:List AV→Bool×AV
 | [db a0 _,.pbox (.leaf .bool) a1 none,.pbox (.osl 5 .byte) a2 none,.pbox (.psl 22 (.osl 5 .byte)) a3 none,.pbox (.leaf (.sl .byte)) a4 none,.pbox (.leaf (.int .i64)) a5 none]=>((qqN a0 a1 a2 a3 a4 a5),.tup [(.tup []),.bad,(.pbox (.leaf .bool) ((z58 a0 a1 a2 a3 a4 a5).1) none),(.pbox (.osl 5 .byte) ((z58 a0 a1 a2 a3 a4 a5).2.1) none),(.pbox (.psl 22 (.osl 5 .byte)) ((z58 a0 a1 a2 a3 a4 a5).2.2.1) none),(.pbox (.leaf (.sl .byte)) ((z58 a0 a1 a2 a3 a4 a5).2.2.2.1) none),(.pbox (.leaf (.int .i64)) ((z58 a0 a1 a2 a3 a4 a5).2.2.2.2) none)])
 | _=>(false,.bad)
def s_z31:List AV→Bool×AV
 | [db a0 _,de a1 _,.dat (.sl (.sl .byte)) a2 _]=>(qqO a0 a1 a2,(.dat (.sl (.sl .byte)) (z31 a0 a1 a2) none))
 | _=>(false,.bad)
def s_z13:List AV→Bool×AV
 | [db a0 _,.dat (.sl (.int .i32)) a1 _]=>(qhu a0 a1,(.tup [(.dat (.sl (.sl .byte)) ((z13 a0 a1).1) none),(de ((z13 a0 a1).2) none)]))
 | _=>(false,.bad)
def s_z7:List AV→Bool×AV
 | [db a0 _,.dat (.sl (.int .i32)) a1 _]=>(z7_ok a0 a1,(.tup [(db ((z7 a0 a1).1) none),(de ((z7 a0 a1).2) none)]))
 | _=>(false,.bad)
def s_z6:List AV→Bool×AV
 | []=>(true,(dg z6))
 | _=>(false,.bad)
def s_z117:List AV→Bool×AV
 | [dn a0 _]=>(true,(di (z117 a0) none))
 | _=>(false,.bad)
def s_z83:List AV→Bool×AV
 | [di a0 _]=>(true,(.tup [(dn ((z83 a0).1) none),(dh ((z83 a0).2) none)]))
 | _=>(false,.bad)
def s_z118:List AV→Bool×AV
 | [dn a0 _]=>(true,(di (z118 a0) none))
 | _=>(false,.bad)
def s_z84:List AV→Bool×AV
 | [di a0 _]=>(true,(.tup [(dn ((z84 a0).1) none),(dh ((z84 a0).2) none)]))
 | _=>(false,.bad)
def s_z119:List AV→Bool×AV
 | [dn a0 _]=>(true,(di (z119 a0) none))
 | _=>(false,.bad)
def s_z85:List AV→Bool×AV
 | [di a0 _]=>(true,(.tup [(dn ((z85 a0).1) none),(dh ((z85 a0).2) none)]))
 | _=>(false,.bad)
def s_z124:List AV→Bool×AV
 | [di a0 _]=>(true,(dh (z124 a0) none))
 | _=>(false,.bad)
def s_z97:List AV→Bool×AV
 | [di a0 _]=>(true,(dh (z97 a0) none))
 | _=>(false,.bad)
def s_z82:List AV→Bool×AV
 | [de a0 _,di a1 _]=>(true,(dh (z82 a0 a1) none))
 | _=>(false,.bad)
def s_z81:List AV→Bool×AV
 | [de a0 _,.dat (.sl (.int .i32)) a1 _]=>(qwm a0 a1,(de (z81 a0 a1) none))
 | _=>(false,.bad)
def s_z46:List AV→Bool×AV
 | [de a0 _,.dat (.sl (.int .i32)) a1 _]=>(qwn a0 a1,(dh (z46 a0 a1) none))
 | _=>(false,.bad)
def s_z24:List AV→Bool×AV
 | [.dat (.sl (.int .i32)) a0 _]=>(qpP a0,(.tup [(de ((z24 a0).1) none),(de ((z24 a0).2) none)]))
 | _=>(false,.bad)
def s_z86:List AV→Bool×AV
 | [di a0 _]=>(true,(db (z86 a0) (some (2,5))))
 | _=>(false,.bad)
def s_z47:List AV→Bool×AV
 | [de a0 _,di a1 _]=>(true,(db (z47 a0 a1) (some (4,5))))
 | _=>(false,.bad)
def s_z25:List AV→Bool×AV
 | [de a0 _,.dat (.sl (.int .i32)) a1 _]=>(qwz a0 a1,(.tup [(db ((z25 a0 a1).1) none),(de ((z25 a0 a1).2) none)]))
 | _=>(false,.bad)
def s_z126:List AV→Bool×AV
 | [df a0 _,dn a1 _]=>(qzR a0 a1,(dh (z126 a0 a1) none))
 | _=>(false,.bad)
def s_z101:List AV→Bool×AV
 | [dn a0 _]=>(true,(de (z101 a0) none))
 | _=>(false,.bad)
def s_z65:List AV→Bool×AV
 | [dn a0 _,de a1 _]=>(true,(dh (z65 a0 a1) none))
 | _=>(false,.bad)
def s_z120:List AV→Bool×AV
 | [de a0 _]=>(qcK a0,(dn (z120 a0) none))
 | _=>(false,.bad)
def s_z87:List AV→Bool×AV
 | [db a0 _,dn a1 _,dn a2 _]=>(qBv a0 a1 a2,(db (z87 a0 a1 a2) (some (6,5))))
 | _=>(false,.bad)
def s_z48:List AV→Bool×AV
 | [dn a0 _]=>(true,(db (z48 a0) (some (2,5))))
 | _=>(false,.bad)
def s_z26:List AV→Bool×AV
 | [db a0 _]=>(qye a0,(db (z26 a0) (some (2,5))))
 | _=>(false,.bad)
def s_z10:List AV→Bool×AV
 | [.dat (.sl (.int .i32)) a0 _]=>(qiS a0,(.tup [(.dat (.sl (.sl .byte)) ((z10 a0).1) none),(de ((z10 a0).2) none)]))
 | _=>(false,.bad)
def s_z37:List AV→Bool×AV
 | [db a0 _,de a1 _]=>(qpX a0 a1,(de (z37 a0 a1) none))
 | _=>(false,.bad)
def s_z19:List AV→Bool×AV
 | [db a0 _]=>(qqK a0,(dh (z19 a0) none))
 | _=>(false,.bad)
def s_z59:List AV→Bool×AV
 | [.dat (.sl (.int .i32)) a0 _]=>(qyn a0,(de (z59 a0) none))
 | _=>(false,.bad)
def s_z32:List AV→Bool×AV
 | [db a0 _,.dat (.sl (.int .i32)) a1 _]=>(qiR a0 a1,(de (z32 a0 a1) none))
 | _=>(false,.bad)
def s_z60:List AV→Bool×AV
 | [.dat (.sl (.int .i32)) a0 _]=>(qyo a0,(dh (z60 a0) none))
 | _=>(false,.bad)
def s_z98:List AV→Bool×AV
 | [db a0 _]=>(qtM a0,(db (z98 a0) (some (2,5))))
 | _=>(false,.bad)
def s_z61:List AV→Bool×AV
 | [db a0 _]=>(qyi a0,(db (z61 a0) none))
 | _=>(false,.bad)
def s_z33:List AV→Bool×AV
 | [db a0 _,.dat (.sl (.int .i32)) a1 _]=>(qkF a0 a1,(db (z33 a0 a1) (some (4,5))))
 | _=>(false,.bad)
def s_z99:List AV→Bool×AV
 | [de a0 _]=>(qtO a0,(df (z99 a0) none))
 | _=>(false,.bad)
def s_z62:List AV→Bool×AV
 | [.dat (.pair (.sl .byte) (.pair (.int .i64) (.pair .bool (.pair (.sl .byte) .unit)))) a0 _]=>(qqI a0,(db (z62 a0) (some (2,5))))
 | _=>(false,.bad)
def s_z34:List AV→Bool×AV
 | [db a0 _,de a1 _,df a2 _]=>(qfy a0 a1 a2,(db (z34 a0 a1 a2) (some (6,5))))
 | _=>(false,.bad)
def s_z63:List AV→Bool×AV
 | [de a0 _]=>(true,(.dat (.sl .str) (z63 a0) (some (2,9))))
 | _=>(false,.bad)
def s_z35:List AV→Bool×AV
 | [de a0 _]=>(true,(df (z35 a0) none))
 | _=>(false,.bad)
def s_z14:List AV→Bool×AV
 | [db a0 _,.dat (.sl (.int .i32)) a1 _]=>(qkG a0 a1,(.tup [(.dat (.sl (.sl .byte)) ((z14 a0 a1).1) none),(de ((z14 a0 a1).2) none)]))
 | _=>(false,.bad)
def s_z8:List AV→Bool×AV
 | [db a0 _,.dat (.sl (.int .i32)) a1 _]=>(z8_ok a0 a1,(.tup [(db ((z8 a0 a1).1) none),(de ((z8 a0 a1).2) none)]))
 | _=>(false,.bad)
def s_z9:List AV→Bool×AV
 | [.dat (.sl (.int .i32)) a0 _]=>(z9_ok a0,(.tup [(.dat (.sl (.sl .byte)) ((z9 a0).1) none),(de ((z9 a0).2) none)]))
 | _=>(false,.bad)
def s_z11:List AV→Bool×AV
 | [db a0 _,db a1 _]=>(qpV a0 a1,(dh (z11 a0 a1) none))
 | _=>(false,.bad)
def s_z12:List AV→Bool×AV
 | [.dat (.sl (.sl .byte)) a0 _,.dat (.sl (.sl .byte)) a1 _]=>(qlR a0 a1,(dh (z12 a0 a1) none))
 | _=>(false,.bad)
def s_z3:List AV→Bool×AV
 | [db a0 _,.dat (.sl (.int .i32)) a1 _]=>(z3_ok a0 a1,(dh (z3 a0 a1) none))
 | _=>(false,.bad)
def s_z15:List AV→Bool×AV
 | [db a0 _,.dat (.sl (.int .i32)) a1 _]=>(qyp a0 a1,(de (z15 a0 a1) none))
 | _=>(false,.bad)
def s_z16:List AV→Bool×AV
 | [db a0 _,.dat (.sl (.int .i32)) a1 _]=>(qqL a0 a1,(dh (z16 a0 a1) none))
 | _=>(false,.bad)
def s_z17:List AV→Bool×AV
 | [db a0 _,.dat (.sl (.int .i32)) a1 _]=>(qtQ a0 a1,(dh (z17 a0 a1) none))
 | _=>(false,.bad)
def s_z4:List AV→Bool×AV
 | [db a0 _,.dat (.sl (.int .i32)) a1 _]=>(z4_ok a0 a1,(dh (z4 a0 a1) none))
 | _=>(false,.bad)
def s_digK (ok:Int→Bool):List AV→Bool×AV
 | [de a0 _]=>(ok a0,(df (digI a0) none))
 | _=>(false,.bad)
def E_dig (ok:Int→Bool):EnvP:=⟨⟨tiOf tis,fnsOf [(99,s_digK ok)],cnsOf [],[],17,(fun _=>none),(fun _=>none),some [2]⟩,fun _=>none,fun _=>none,fun _=>[],fun _=>none,fun _=>none,fun _=>none,fun _=>none⟩
theorem qst:qe G Tryz.prog 146 s_z146:=fun w S hg vals avs r h hS ha=>by
 unfold s_z146 at h;split at h
 ·simp only [yb,true_and] at h;subst h;exact qqP Tryz.func146 (by kernel_rfl) (by kernel_rfl) (by kernel_rfl) (by kernel_rfl) hS ha
 ·cases h
theorem qdF:qe G Tryz.prog 53 s_z53:=fun w S hg vals avs r h hS ha=>by
 unfold s_z53 at h;split at h
 ·obtain ⟨hp,rfl⟩:=yj h;exact qtT hS ha (qr hp)
 ·cases h
theorem qsu:qe G Tryz.prog 110 s_z110:=fun w S hg vals avs r h hS ha=>by
 unfold s_z110 at h;split at h
 ·obtain ⟨hp,rfl⟩:=yj h;have hp':=of_decide_eq_true hp;exact qqQ hg hS ha hp'.1 hp'.2
 ·cases h
theorem qwH:qe G Tryz.prog 30 s_z30:=fun w S hg vals avs r h hS ha=>by
 unfold s_z30 at h;split at h
 ·obtain ⟨hp,rfl⟩:=yj h;exact qtW hS ha hp
 ·cases h
theorem qqa:qe Any Tryz.prog 137 s_z137:=fun w S hg vals avs r h hS ha=>by
 unfold s_z137 at h;split at h
 ·simp only [yb] at h;cases h.1
 ·cases h
theorem qqb:qe Any Tryz.prog 139 s_z139:=fun w S hg vals avs r h hS ha=>by
 unfold s_z139 at h;split at h
 ·simp only [yb] at h;cases h.1
 ·cases h
theorem qBA:qe G Tryz.prog 99 (s_digK fun _=>false):=fun w S hg vals avs r h hS ha=>by
 unfold s_digK at h;split at h
 ·simp only [yb] at h;cases h.1
 ·cases h
theorem qHI (ok:Int→Bool) (n:Nat) (n0:Int) (o0:Lab):evFnP (E_dig ok) n (Tryz.f99.body.getD .skip) Tryz.f99.results [de n0 o0]=qiX ok n0:=by
 kernel_rfl
theorem qnz (ok ok':Int→Bool) (h0:qe G Tryz.prog 99 (s_digK ok)) (hm:∀ n,ok' n=true→qiX ok n=qfk (digI n)):qe G Tryz.prog 99 (s_digK ok'):=by
 refine qJ G_stays (E:=E_dig ok) (fn:=Tryz.f99) (c:=Tryz.f99.body.getD .skip) (qo rfl qdE) (fun w S hg=>⟨⟨(qa (h0 w S hg) qc),fun f sp h=>qbr f sp h w S⟩,qdG w S hg,(fun _ _ h=>by cases h),(fun f sp h=>qfT f sp h),(fun f it h=>qfU f it h),(fun t kt vt h=>qcE t kt vt h)⟩) follows Tryz.func99 (by kernel_rfl) (by kernel_rfl) (by kernel_rfl) ?_;intro avs r h;unfold s_digK at h;split at h
 ·obtain ⟨hp,rfl⟩:=yj h;exact ⟨0,_,(qHI ok 0 _ _).trans (hm _ hp),.inl rfl⟩
 ·cases h
theorem qwI:qe G Tryz.prog 99 s_z99:=fun w S hg vals avs r h hS ha=>by
 have h2:=qnz ok10 qtO (qnz (fun _=>false) ok10 qBA dig10) qJO;refine h2 w S hg vals avs r ?_ hS ha;unfold s_z99 at h;unfold s_digK;split at h
 ·exact h
 ·cases h
def qEX:EnvP:=eQ [] 6 (some [2]) nC nC nP
def qEY:Code:=cO Tryz.f105
def qHJ:Array ResultVar:=Tryz.f105.results
theorem qEZ (n:Nat) (c0:Int) (o0:Lab):evFnP qEX n qEY qHJ [di c0 o0]=qzY n c0:=by
 kernel_rfl
theorem qkd:qe G Tryz.prog 105 s_z105:=by
 refine sQ (E:=qEX) (c:=qEY) rfl (fun w S hg=>qc) Tryz.func105 ?_;intro avs r h;unfold s_z105 at h;split at h <;> cases h
 obtain ⟨n,hn⟩:=qzG _;exact ⟨n,_,(qEZ n _ _).trans hn,.inl rfl⟩
def qFa:EnvP:=eQ [] 10 (some [0]) nC nC nP
def qFb:Code:=cO Tryz.f130
def qHK:Array ResultVar:=Tryz.f130.results
theorem qFc (n:Nat)  : evFnP qFa n qFb qHK []=qzZ n  := by
 kernel_rfl
theorem qsv:qe G Tryz.prog 130 s_z130:=by
 refine sQ (E:=qFa) (c:=qFb) rfl (fun w S hg=>qc) Tryz.func130 ?_;intro avs r h;unfold s_z130 at h;split at h <;> cases h
 obtain ⟨n,hn⟩:=qzq;exact ⟨n,_,(qFc n ).trans hn,.inl rfl⟩
def qiB:EnvP:=eQ [(130,s_z130)] 31 (some [2,3]) (fun x=>if x=2 then some [0,6,7] else none) (fun x=>if x=0 then some [0] else if x=1 then some [0,6,7] else if x=2 then some [0,6,7] else none) nP
def qqc:Code:=cO Tryz.f113
def qFd:Array ResultVar:=Tryz.f113.results
noncomputable def qiC (K:Ex→Fr→Option AV):=fun s2 s3=>K .ret (frOf [(2,dm s2),(3,dg s3)])
noncomputable def qgC (K:Ex→Fr→Option AV):=fun c0=>K (.exit 0) (frOf [(0,(di c0 none))])
def qiD (n:Nat):Ex→Fr→Option AV:=qp 0 (qiB.cutb 0) (kSeq (evCP qiB (evLP qiB n) (sub qqc [1,1])) (kFnP qiB qFd))
def qlH (c0:Int) (s6:List (UInt8×(Int×Unit))) (s7:Int):Fr:=frOf [(0,(di c0 none)),(6,(.dat (.arr 8 (.pair .byte (.pair (.int .i32) .unit))) s6 none)),(7,dc s7)]
theorem qsw (K:Ex→Fr→Option AV):∀ (n:Nat) (c0:Int) (s6:List (UInt8×(Int×Unit))) (s7:Int),evLP qiB n (sub qqc [1,0,1,0,0]) K (qlH c0 s6 s7)=qhJ (qiC K) (qgC K) n c0 s6 s7:=by
 intro n;induction n with
 | zero=>intros; rfl
 | succ n IH =>
 intro c0 s6 s7;have ih:(fun c0 s6 s7=>evLP qiB n (sub qqc [1,0,1,0,0]) K (qlH c0 s6 s7))=qhJ (qiC K) (qgC K) n:=by
  funext c0 s6 s7;exact IH c0 s6 s7
 show _=qoZ (qiC K) (qgC K) (qhJ (qiC K) (qgC K) n) n c0 s6 s7;rw [← ih];kernel_rfl
theorem qlI (n:Nat) (c0:Int):(qiD n) (.exit 0) (frOf [(0,(di c0 none))])=qcv n c0:=by
 kernel_rfl
theorem qFe (n:Nat) (c0:Int) (o0:Lab):evFnP qiB n qqc qFd [di c0 o0]=qul n c0:=by
 unfold qul;rw [show qhJ qbY (qcv n) n=(fun c0 s6 s7=>evLP qiB n (sub qqc [1,0,1,0,0]) (qiD n) (qlH c0 s6 s7)) from by
  funext c0 s6 s7;refine Eq.trans ?_ (qsw (qiD n) n c0 s6 s7).symm;rw [show (qgC (qiD n))=(qcv n) from by
   funext c0;exact qlI n c0]
  all_goals kernel_rfl]
 kernel_rfl
theorem qke:qe G Tryz.prog 113 s_z113:=by
 refine sQ (E:=qiB) (c:=qqc) rfl (fun w S hg=>(qa (qsv w S hg) qc)) Tryz.func113 ?_;intro avs r h;unfold s_z113 at h;split at h <;> cases h
 obtain ⟨n,hn⟩:=qzC _;exact ⟨n,_,(qFe n _ _).trans hn,.inl rfl⟩
def qFf:EnvP:=eQ [(113,s_z113)] 11 (some [2]) nC nC nP
def qFg:Code:=cO Tryz.f106
def qHL:Array ResultVar:=Tryz.f106.results
theorem qFh (n:Nat) (c0:Int) (o0:Lab):evFnP qFf n qFg qHL [di c0 o0]=qAa n c0:=by
 kernel_rfl
theorem qsx:qe G Tryz.prog 106 s_z106:=by
 refine sQ (E:=qFf) (c:=qFg) rfl (fun w S hg=>(qa (qke w S hg) qc)) Tryz.func106 ?_;intro avs r h;unfold s_z106 at h;split at h <;> cases h
 obtain ⟨n,hn⟩:=qzD _;exact ⟨n,_,(qFh n _ _).trans hn,.inl rfl⟩
def E_z89:EnvP:=eQ [] 19 (some [4]) (fun x=>if x=2 then some [0,1,7,8] else none) (fun x=>if x=0 then some [] else if x=1 then some [0,1,7,8] else none) nP
def C_z89:Code:=cO Tryz.f89
def R_z89:Array ResultVar:=Tryz.f89.results
noncomputable def qnA (K:Ex→Fr→Option AV):=fun s4=>K .ret (frOf [(4,dc s4)])
def qnB (n:Nat):Ex→Fr→Option AV:=qp 0 (E_z89.cutb 0) (kSeq (evCP E_z89 (evLP E_z89 n) (sub C_z89 [1,1])) (kFnP E_z89 R_z89))
def qsy (s0:List Int) (v1:Int) (s7:Int) (s8:Int):Fr:=frOf [(0,(.dat (.sl (.int .i32)) s0 none)),(1,(di v1 none)),(7,dc s7),(8,dc s8)]
theorem qwJ (K:Ex→Fr→Option AV):∀ (n:Nat) (s0:List Int) (v1:Int) (s7:Int) (s8:Int),evLP E_z89 n (sub C_z89 [1,0,1,0,0]) K (qsy s0 v1 s7 s8)=qlX (qnA K) (K (.exit 0) (frOf [])) n s0 v1 s7 s8:=by
 intro n;induction n with
 | zero=>intros; rfl
 | succ n IH =>
 intro s0 v1 s7 s8;have ih:(fun s0 v1 s7 s8=>evLP E_z89 n (sub C_z89 [1,0,1,0,0]) K (qsy s0 v1 s7 s8))=qlX (qnA K) (K (.exit 0) (frOf [])) n:=by
  funext s0 v1 s7 s8;exact IH s0 v1 s7 s8
 show _=qen (qnA K) (K (.exit 0) (frOf [])) (qlX (qnA K) (K (.exit 0) (frOf [])) n) n s0 v1 s7 s8;rw [← ih];kernel_rfl
theorem qqd (n:Nat)  : (qnB n) (.exit 0) (frOf [])=qgI n  := by
 kernel_rfl
theorem qHM (n:Nat) (s0:List Int) (o0:Lab) (v1:Int) (o1:Lab):evFnP E_z89 n C_z89 R_z89 [.dat (.sl (.int .i32)) s0 o0,di v1 o1]=qyy n s0 v1:=by
 unfold qyy;rw [show qlX qkH (qgI n) n=(fun s0 v1 s7 s8=>evLP E_z89 n (sub C_z89 [1,0,1,0,0]) (qnB n) (qsy s0 v1 s7 s8)) from by
  funext s0 v1 s7 s8;refine Eq.trans ?_ (qwJ (qnB n) n s0 v1 s7 s8).symm;rw [show ((qnB n) (.exit 0) (frOf []))=(qgI n) from by
   exact qqd n ]
  all_goals kernel_rfl]
 kernel_rfl
theorem qnC:qe G Tryz.prog 89 s_z89:=by
 refine sQ (E:=E_z89) (c:=C_z89) rfl (fun w S hg=>qc) Tryz.func89 ?_;intro avs r h;unfold s_z89 at h;split at h
 ·obtain ⟨hp,rfl⟩:=yj h;obtain ⟨n,hn⟩:=qDE _ _ hp;exact ⟨n,_,(qHM n _ _ _ _).trans hn,.inl rfl⟩
 ·cases h
def qFi:EnvP:=⟨⟨tiOf tis,fnsOf [],cnsOf [],[],4,(fun _=>none),(fun _=>none),some [0]⟩,fun _=>none,fun _=>none,(fun x=>if x=500002 then [1] else []),fun _=>none,fun _=>none,fun _=>none,fun _=>none⟩
def qFj:Code:=cO Tryz.f131
def qHN:Array ResultVar:=Tryz.f131.results
theorem qFk (n:Nat)  : evFnP qFi n qFj qHN []=qAb n  := by
 kernel_rfl
theorem qsz:qe G Tryz.prog 131 s_z131:=by
 refine qJ G_stays (E:=qFi) (fn:=Tryz.f131) (c:=qFj) (qo rfl qdE) (fun w S hg=>⟨⟨qc,fun f sp h=>qbr f sp h w S⟩,qdG w S hg,(fun _ _ h=>by cases h),(fun f sp h=>qfT f sp h),(fun f it h=>qfU f it h),(fun t kt vt h=>qcE t kt vt h)⟩) follows Tryz.func131 (by kernel_rfl) (by kernel_rfl) (by kernel_rfl) ?_;intro avs r h;unfold s_z131 at h;split at h <;> cases h
 obtain ⟨n,hn⟩:=qzr;exact ⟨n,_,(qFk n ).trans hn,.inl rfl⟩
def qFl:EnvP:=eQ [(89,s_z89),(131,s_z131)] 31 (some [2,3]) nC (fun x=>if x=0 then some [0] else none) nP
def qFm:Code:=cO Tryz.f115
def qHO:Array ResultVar:=Tryz.f115.results
theorem qFn (n:Nat) (c0:Int) (o0:Lab):evFnP qFl n qFm qHO [di c0 o0]=qup n c0:=by
 kernel_rfl
theorem qkf:qe G Tryz.prog 115 s_z115:=by
 refine sQ (E:=qFl) (c:=qFm) rfl (fun w S hg=>(qa (qnC w S hg) (qa (qsz w S hg) qc))) Tryz.func115 ?_;intro avs r h;unfold s_z115 at h;split at h <;> cases h
 obtain ⟨n,hn⟩:=qzE _;exact ⟨n,_,(qFn n _ _).trans hn,.inl rfl⟩
def qFo:EnvP:=eQ [(115,s_z115)] 11 (some [2]) nC nC nP
def qFp:Code:=cO Tryz.f107
def qHP:Array ResultVar:=Tryz.f107.results
theorem qFq (n:Nat) (c0:Int) (o0:Lab):evFnP qFo n qFp qHP [di c0 o0]=qAc n c0:=by
 kernel_rfl
theorem qkg:qe G Tryz.prog 107 s_z107:=by
 refine sQ (E:=qFo) (c:=qFp) rfl (fun w S hg=>(qa (qkf w S hg) qc)) Tryz.func107 ?_;intro avs r h;unfold s_z107 at h;split at h <;> cases h
 obtain ⟨n,hn⟩:=qzF _;exact ⟨n,_,(qFq n _ _).trans hn,.inl rfl⟩
def qFr:EnvP:=eQ [] 9 (some [2]) nC nC nP
def qFs:Code:=cO Tryz.f127
def qHQ:Array ResultVar:=Tryz.f127.results
theorem qFt (n:Nat) (c0:Int) (o0:Lab):evFnP qFr n qFs qHQ [di c0 o0]=qur n c0:=by
 kernel_rfl
theorem qsA:qe G Tryz.prog 127 s_z127:=by
 refine sQ (E:=qFr) (c:=qFs) rfl (fun w S hg=>qc) Tryz.func127 ?_;intro avs r h;unfold s_z127 at h;split at h <;> cases h
 obtain ⟨n,hn⟩:=qzu _;exact ⟨n,_,(qFt n _ _).trans hn,.inl rfl⟩
def qFu:EnvP:=eQ [(127,s_z127)] 11 (some [2]) nC nC nP
def qFv:Code:=cO Tryz.f108
def qHR:Array ResultVar:=Tryz.f108.results
theorem qFw (n:Nat) (c0:Int) (o0:Lab):evFnP qFu n qFv qHR [di c0 o0]=qus n c0:=by
 kernel_rfl
theorem qgD:qe G Tryz.prog 108 s_z108:=by
 refine sQ (E:=qFu) (c:=qFv) rfl (fun w S hg=>(qa (qsA w S hg) qc)) Tryz.func108 ?_;intro avs r h;unfold s_z108 at h;split at h <;> cases h
 obtain ⟨n,hn⟩:=qzv _;exact ⟨n,_,(qFw n _ _).trans hn,.inl rfl⟩
def E_z72:EnvP:=eQ [(105,s_z105),(106,s_z106),(107,s_z107),(108,s_z108)] 30 (some [4]) nC (fun x=>if x=0 then some [] else none) nP
def C_z72:Code:=cO Tryz.f72
def R_z72:Array ResultVar:=Tryz.f72.results
theorem qHS (n:Nat) (charset0:Int) (o0:Lab) (c1:Int) (o1:Lab):evFnP E_z72 n C_z72 R_z72 [de charset0 o0,di c1 o1]=qCz n charset0 c1:=by
 kernel_rfl
theorem qnD:qe G Tryz.prog 72 s_z72:=by
 refine sQ (E:=E_z72) (c:=C_z72) rfl (fun w S hg=>(qa (qkd w S hg) (qa (qsx w S hg) (qa (qkg w S hg) (qa (qgD w S hg) qc))))) Tryz.func72 ?_;intro avs r h;unfold s_z72 at h;split at h <;> cases h
 obtain ⟨n,hn⟩:=qDO _ _;exact ⟨n,_,(qHS n _ _ _ _).trans hn,.inl rfl⟩
def E_z42:EnvP:=eQ [(72,s_z72)] 19 (some [2]) (fun x=>if x=3 then some [0,3,5] else none) (fun x=>if x=0 then some [3] else if x=1 then some [0,3,5] else none) nP
def C_z42:Code:=cO Tryz.f42
def R_z42:Array ResultVar:=Tryz.f42.results
noncomputable def qkh (K:Ex→Fr→Option AV):=fun s3=>K (.exit 0) (frOf [(3,dc s3)])
def qnE (n:Nat):Ex→Fr→Option AV:=qp 0 (E_z42.cutb 0) (kSeq (evCP E_z42 (evLP E_z42 n) (sub C_z42 [1,1,1])) (kFnP E_z42 R_z42))
def qsB (c0:Int) (s3:Int) (s5:Int):Fr:=frOf [(0,(di c0 none)),(3,dc s3),(5,dc s5)]
theorem qwK (K:Ex→Fr→Option AV):∀ (n:Nat) (c0:Int) (s3:Int) (s5:Int),evLP E_z42 n (sub C_z42 [1,1,0,1,0,0]) K (qsB c0 s3 s5)=qiY (qkh K) n c0 s3 s5:=by
 intro n;induction n with
 | zero=>intros; rfl
 | succ n IH =>
 intro c0 s3 s5;have ih:(fun c0 s3 s5=>evLP E_z42 n (sub C_z42 [1,1,0,1,0,0]) K (qsB c0 s3 s5))=qiY (qkh K) n:=by
  funext c0 s3 s5;exact IH c0 s3 s5
 show _=qeo (qkh K) (qiY (qkh K) n) n c0 s3 s5;rw [← ih];kernel_rfl
theorem qqe (n:Nat) (s3:Int):(qnE n) (.exit 0) (frOf [(3,dc s3)])=qcX n s3:=by
 kernel_rfl
theorem qHT (n:Nat) (c0:Int) (o0:Lab):evFnP E_z42 n C_z42 R_z42 [di c0 o0]=qyz n c0:=by
 unfold qyz;rw [show qiY (qcX n) n=(fun c0 s3 s5=>evLP E_z42 n (sub C_z42 [1,1,0,1,0,0]) (qnE n) (qsB c0 s3 s5)) from by
  funext c0 s3 s5;refine Eq.trans ?_ (qwK (qnE n) n c0 s3 s5).symm;rw [show (qkh (qnE n))=(qcX n) from by
   funext s3;exact qqe n s3]
  all_goals kernel_rfl]
 kernel_rfl
theorem qwL:qe G Tryz.prog 42 s_z42:=by
 refine sQ (E:=E_z42) (c:=C_z42) rfl (fun w S hg=>(qa (qnD w S hg) qc)) Tryz.func42 ?_;intro avs r h;unfold s_z42 at h;split at h <;> cases h
 obtain ⟨n,hn⟩:=qEg _;exact ⟨n,_,(qHT n _ _).trans hn,.inl rfl⟩
def E_z73:EnvP:=eQ [(110,s_z110)] 8 (some [2]) nC nC nP
def C_z73:Code:=cO Tryz.f73
def R_z73:Array ResultVar:=Tryz.f73.results
theorem qHU (n:Nat) (x0:Int) (o0:Lab):evFnP E_z73 n C_z73 R_z73 [.dat (.int .u64) x0 o0]=qCA n x0:=by
 kernel_rfl
theorem qwM:qe G Tryz.prog 73 s_z73:=by
 refine sQ (E:=E_z73) (c:=C_z73) rfl (fun w S hg=>(qa (qsu w S hg) qc)) Tryz.func73 ?_;intro avs r h;unfold s_z73 at h;split at h
 ·obtain ⟨hp,rfl⟩:=yj h;obtain ⟨n,hn⟩:=qDZ _ hp;exact ⟨n,_,(qHU n _ _).trans hn,.inl rfl⟩
 ·cases h
end
end Go.Av
