import Derived.Test.YtabdohophompiaaDoorPxPT
import Derived.Test.YtabdohophompiaaDoorPxN
import Derived.Test.YtabdohophompiaaDoorProg
import Derived.KernelRfl
namespace Go.Av
set_option linter.unusedSimpArgs false
noncomputable section
open Go.Proofs
set_option maxRecDepth 100000
set_option linter.unusedVariables false
def tis:List (TypeId×TI):=[(2,⟨some (.int .i64),8,0⟩),
 (3,⟨some (.int .i64),8,0⟩),
 (4,⟨some .bool,1,0⟩),
 (5,⟨some .byte,1,0⟩),
 (6,⟨some .byte,1,0⟩),
 (7,⟨some (.pair (.int .i64) (.pair (.int .i64) (.pair .bool (.pair .byte .unit)))),24,0⟩),
 (8,⟨some (.pair (.int .i64) (.pair (.int .i64) (.pair .bool (.pair .byte .unit)))),24,0⟩),
 (9,⟨some .str,16,0⟩),
 (10,⟨some .str,16,0⟩),
 (11,⟨some .str,16,0⟩),
 (12,⟨some (.int .u64),8,0⟩),
 (13,⟨some (.pair .str (.pair (.int .u64) .unit)),24,0⟩),
 (14,⟨some (.pair .str (.pair (.int .u64) .unit)),24,0⟩),
 (21,⟨some (.int .i32),4,0⟩),
 (22,⟨some (.sl .byte),24,5⟩),
 (23,⟨some (.sl (.int .i32)),24,21⟩),
 (25,⟨some (.sl (.sl .byte)),24,22⟩),
 (26,⟨some (.int .i64),8,0⟩),
 (50,⟨some (.pair (.sl .byte) (.pair (.int .i64) (.pair .bool (.pair (.sl .byte) .unit)))),64,0⟩),
 (51,⟨some (.pair (.sl .byte) (.pair (.int .i64) (.pair .bool (.pair (.sl .byte) .unit)))),64,0⟩),
 (62,⟨some (.int .u64),8,0⟩),
 (67,⟨some (.sl .str),24,9⟩),
 (72,⟨some (.int .u32),4,0⟩),
 (74,⟨some (.int .u64),8,0⟩),
 (81,⟨some (.arr 32 .byte),32,5⟩),
 (82,⟨some (.arr 64 .byte),64,5⟩),
 (84,⟨some (.pair .byte (.pair (.int .i32) .unit)),8,0⟩),
 (85,⟨some (.pair .byte (.pair (.int .i32) .unit)),8,0⟩),
 (86,⟨some (.arr 8 (.pair .byte (.pair (.int .i32) .unit))),64,85⟩),
 (90,⟨some (.arr 32 (.int .i32)),128,21⟩),
 (92,⟨some (.arr 24 .byte),24,5⟩),
 (98,⟨some (.arr 20 (.int .u64)),160,74⟩),
 (99,⟨some (.arr 65 .byte),65,5⟩),
 (108,⟨some .byte,1,0⟩),
 (109,⟨some .byte,1,0⟩),
 (112,⟨some (.int .i32),4,0⟩),
 (113,⟨some (.int .i32),4,0⟩)]
theorem qeb:(tis.all fun p=>tyB Tryd.prog (tiOf tis) p.1)=true:=by kernel_rfl
theorem follows:Tryd.prog.follows .mixedOrders=true:=by kernel_rfl
abbrev FnL:=List (FuncId×(List AV→Bool×AV))
abbrev CutL:=Nat→Option (List Nat)
def eQ (l:FnL) (nt:Nat) (r:Option (List Nat)) (a b:CutL) (p:Nat→Option PSh):EnvP:=⟨⟨tiOf tis,fnsOf l,cnsOf [],[],nt,a,b,r⟩,p,fun _=>none,fun _=>[],fun _=>none,fun _=>none,fun _=>none,fun _=>none⟩
def cO (f:Func):Code:=f.body.getD .skip
def nC:CutL:=fun _=>none
def nP:Nat→Option PSh:=fun _=>none
theorem sQ {E:EnvP} {l:FnL} {nt:Nat} {r:Option (List Nat)} {a b:CutL} {p:Nat→Option PSh} {f:FuncId} {fn:Func} {c:Code} {spec:List AV→Bool×AV} (hE:E=eQ l nt r a b p) (hl:∀ w S,G w S→∀ f,qaR Tryd.prog f (fnsOf l f) w S)
 (hf:Tryd.prog.funcs[f]? = some fn) (hspec:∀ avs r',spec avs=(true,r')→∃ n v,evFnP E n c fn.results avs=some v∧(v=r'∨v.strip=r')) (hb:fn.body=some c:=by kernel_rfl) (hnt:fn.ntmps=nt:=by kernel_rfl) (hname:(fn.name == "runtime.NumGoroutine")=false:=by kernel_rfl):qk G Tryd.prog f spec:=by
 subst hE;exact qN G_stays (E:=eQ l nt r a b p) (qq rfl qeb) (fun w S hg=>⟨⟨hl w S hg,fun f sp h=>qbr f sp h w S⟩,qfc w S hg,(fun _ _ h=>by cases h),(fun f sp h=>qfE f sp h),(fun f it h=>qfF f it h),(fun t kt vt h=>qdK t kt vt h)⟩) follows hf hb hnt hname hspec
def s_z73:List AV→Bool×AV
 | [di a0 _]=>(true,(de (z73 a0) none))
 | _=>(false,.bad)
def s_z85:List AV→Bool×AV
 | [.dat .str a0 _,di a1 _]=>(true,(de (z85 a0 a1) none))
 | _=>(false,.bad)
def s_z84:List AV→Bool×AV
 | [.dat .str a0 _,di a1 _]=>(true,(de (z84 a0 a1) none))
 | _=>(false,.bad)
def s_z79:List AV→Bool×AV
 | [.dat .str a0 _,di a1 _]=>(true,(de (z79 a0 a1) none))
 | _=>(false,.bad)
def s_z74:List AV→Bool×AV
 | [.dat .str a0 _,di a1 _]=>(true,(dg (z74 a0 a1) none))
 | _=>(false,.bad)
def s_z70:List AV→Bool×AV
 | [di a0 _]=>(true,(de (z70 a0) none))
 | _=>(false,.bad)
def s_z62:List AV→Bool×AV
 | [di a0 _,de a1 _]=>(true,(dg (z62 a0 a1) none))
 | _=>(false,.bad)
def s_z48:List AV→Bool×AV
 | [db a0 _,de a1 _]=>(qpG a0 a1,(de (z48 a0 a1) none))
 | _=>(false,.bad)
def s_z29:List AV→Bool×AV
 | [db a0 _,de a1 _]=>(qlf a0 a1,(dg (z29 a0 a1) none))
 | _=>(false,.bad)
def s_z14:List AV→Bool×AV
 | [db a0 _]=>(qrh a0,(dg (z14 a0) none))
 | _=>(false,.bad)
def s_z33:List AV→Bool×AV
 | [dh a0 _]=>(true,(dg (z33 a0) none))
 | _=>(false,.bad)
def s_z65:List AV→Bool×AV
 | [dh a0 _]=>(true,(dg (z65 a0) none))
 | _=>(false,.bad)
def s_z51:List AV→Bool×AV
 | [dh a0 _]=>(true,(dg (z51 a0) none))
 | _=>(false,.bad)
def s_z50:List AV→Bool×AV
 | [dh a0 _]=>(true,(dg (z50 a0) none))
 | _=>(false,.bad)
def s_z49:List AV→Bool×AV
 | [.dat (.sl (.int .i32)) a0 _,.fn f []]=>bif f==50 then (qfA a0,de (z49 a0) none) else bif f==33 then (qfA a0,de (qm a0) none) else (false,.bad)
 | _=>(false,.bad)
def s_z49_v0:List AV→Bool×AV
 | [.dat (.sl (.int .i32)) a0 _,.fn 50 []]=>(qfA a0,de (z49 a0) none)
 | _=>(false,.bad)
def s_z49_v1:List AV→Bool×AV
 | [.dat (.sl (.int .i32)) a0 _,.fn 33 []]=>(qfA a0,de (qm a0) none)
 | _=>(false,.bad)
def s_z30:List AV→Bool×AV
 | [.dat (.sl (.int .i32)) a0 _]=>(qpv a0,(de (z30 a0) none))
 | _=>(false,.bad)
def s_z15:List AV→Bool×AV
 | [.dat (.sl (.int .i32)) a0 _]=>(qlc a0,(dg (z15 a0) none))
 | _=>(false,.bad)
def s_z31:List AV→Bool×AV
 | [.dat (.sl (.int .i32)) a0 _,dh a1 _]=>(qlb a0 a1,(de (z31 a0 a1) none))
 | _=>(false,.bad)
def s_z16:List AV→Bool×AV
 | [.dat (.sl (.int .i32)) a0 _,dh a1 _]=>(qri a0 a1,(dg (z16 a0 a1) none))
 | _=>(false,.bad)
def s_z7:List AV→Bool×AV
 | [db a0 _,.dat (.sl (.int .i32)) a1 _]=>(z7_ok a0 a1,(de (z7 a0 a1) none))
 | _=>(false,.bad)
def s_z32:List AV→Bool×AV
 | [.dat (.sl (.int .i32)) a0 _,.fn 33 []]=>(qrj a0,(dg (z32 a0) none))
 | _=>(false,.bad)
def s_z17:List AV→Bool×AV
 | [.dat (.sl (.int .i32)) a0 _]=>(qrk a0,(dg (z17 a0) none))
 | _=>(false,.bad)
def s_z52:List AV→Bool×AV
 | [dh a0 _]=>(true,(dg (z52 a0) none))
 | _=>(false,.bad)
def s_z34:List AV→Bool×AV
 | [.dat (.sl (.int .i32)) a0 _]=>(qpy a0,(de (z34 a0) none))
 | _=>(false,.bad)
def s_z18:List AV→Bool×AV
 | [.dat (.sl (.int .i32)) a0 _]=>(qld a0,(.tup [(db ((z18 a0).1) none),(de ((z18 a0).2) none)]))
 | _=>(false,.bad)
def s_z19:List AV→Bool×AV
 | [db a0 _]=>(qeY a0,(db (z19 a0) (some (0,5))))
 | _=>(false,.bad)
def s_z35:List AV→Bool×AV
 | [db a0 _]=>(qre a0,(dg (z35 a0) none))
 | _=>(false,.bad)
def s_z36:List AV→Bool×AV
 | [db a0 _]=>(qrd a0,(db (z36 a0) (some (2,5))))
 | _=>(false,.bad)
def s_z20:List AV→Bool×AV
 | [db a0 _]=>(qrf a0,(db (z20 a0) (some (2,5))))
 | _=>(false,.bad)
def s_z8:List AV→Bool×AV
 | [db a0 _,.dat (.sl (.int .i32)) a1 _]=>(z8_ok a0 a1,(.tup [(db ((z8 a0 a1).1) none),(dg ((z8 a0 a1).2) none)]))
 | _=>(false,.bad)
def s_z68:List AV→Bool×AV
 | []=>(true,(.dat (.arr 8 (.pair .byte (.pair (.int .i32) .unit))) z68 none))
 | _=>(false,.bad)
def s_z59:List AV→Bool×AV
 | [dh a0 _]=>(true,(.tup [(di ((z59 a0).1) none),(dg ((z59 a0).2) none)]))
 | _=>(false,.bad)
def s_z53:List AV→Bool×AV
 | [dh a0 _]=>(true,(dg (z53 a0) none))
 | _=>(false,.bad)
def s_z69:List AV→Bool×AV
 | []=>(true,(.dat (.sl (.int .i32)) z69 none))
 | _=>(false,.bad)
def s_z61:List AV→Bool×AV
 | [dh a0 _]=>(true,(.tup [(di ((z61 a0).1) none),(dg ((z61 a0).2) none)]))
 | _=>(false,.bad)
def s_z54:List AV→Bool×AV
 | [dh a0 _]=>(true,(dg (z54 a0) none))
 | _=>(false,.bad)
def s_z37:List AV→Bool×AV
 | [de a0 _,dh a1 _]=>(true,(dg (z37 a0 a1) none))
 | _=>(false,.bad)
def s_z21:List AV→Bool×AV
 | [dh a0 _]=>(true,(de (z21 a0) none))
 | _=>(false,.bad)
def s_z56:List AV→Bool×AV
 | [.dat (.int .u64) a0 _]=>(qti a0,(de (z56 a0) none))
 | _=>(false,.bad)
def s_z38:List AV→Bool×AV
 | [.dat (.int .u64) a0 _]=>(qpp a0,(de (z38 a0) none))
 | _=>(false,.bad)
def s_z22:List AV→Bool×AV
 | [de a0 _]=>(qpq a0,(de (z22 a0) none))
 | _=>(false,.bad)
def s_z9:List AV→Bool×AV
 | [.dat (.sl (.int .i32)) a0 _]=>(z9_ok a0,(.tup [(de ((z9 a0).1) none),(de ((z9 a0).2) none)]))
 | _=>(false,.bad)
def s_z39:List AV→Bool×AV
 | [de a0 _]=>(true,(de (z39 a0) none))
 | _=>(false,.bad)
def s_z57:List AV→Bool×AV
 | [de a0 _,.dat (.sl (.int .i32)) a1 _]=>(qpC a0 a1,(de (z57 a0 a1) none))
 | _=>(false,.bad)
def s_z40:List AV→Bool×AV
 | [de a0 _,.dat (.sl (.int .i32)) a1 _]=>(qpD a0 a1,(dg (z40 a0 a1) none))
 | _=>(false,.bad)
def s_z66:List AV→Bool×AV
 | [dh a0 _]=>(true,(de (z66 a0) none))
 | _=>(false,.bad)
def s_z67:List AV→Bool×AV
 | [de a0 _]=>(true,(di (z67 a0) none))
 | _=>(false,.bad)
def s_z58:List AV→Bool×AV
 | [db a0 _,dh a1 _]=>(qpw a0 a1,(.tup [(db ((z58 a0 a1).1) none),(de ((z58 a0 a1).2) none)]))
 | _=>(false,.bad)
def s_z41:List AV→Bool×AV
 | [.dat (.sl (.int .i32)) a0 _]=>(qpB a0,(.tup [(db ((z41 a0).1) none),(de ((z41 a0).2) none)]))
 | _=>(false,.bad)
def s_z42:List AV→Bool×AV
 | [.dat (.sl (.int .i32)) a0 _]=>(qpz a0,(.tup [(db ((z42 a0).1) none),(de ((z42 a0).2) none)]))
 | _=>(false,.bad)
def s_z60:List AV→Bool×AV
 | [.dat (.sl (.int .i32)) a0 _]=>(qpx a0,(de (z60 a0) none))
 | _=>(false,.bad)
def s_z43:List AV→Bool×AV
 | [.dat (.sl (.int .i32)) a0 _]=>(qpA a0,(.tup [(db ((z43 a0).1) none),(de ((z43 a0).2) none)]))
 | _=>(false,.bad)
def s_z23:List AV→Bool×AV
 | [de a0 _,.dat (.sl (.int .i32)) a1 _]=>(qpE a0 a1,(.tup [(db ((z23 a0 a1).1) none),(de ((z23 a0 a1).2) none)]))
 | _=>(false,.bad)
def s_z44:List AV→Bool×AV
 | [di a0 _]=>(true,(de (z44 a0) none))
 | _=>(false,.bad)
def s_z71:List AV→Bool×AV
 | [de a0 _]=>(qfz a0,(di (z71 a0) none))
 | _=>(false,.bad)
def s_z63:List AV→Bool×AV
 | [di a0 _]=>(true,(db (z63 a0) (some (2,5))))
 | _=>(false,.bad)
def s_z45:List AV→Bool×AV
 | [db a0 _,di a1 _,di a2 _]=>(qpu a0 a1 a2,(db (z45 a0 a1 a2) (some (6,5))))
 | _=>(false,.bad)
def s_z24:List AV→Bool×AV
 | [db a0 _]=>(qrc a0,(db (z24 a0) (some (2,5))))
 | _=>(false,.bad)
def s_z10:List AV→Bool×AV
 | [de a0 _,.dat (.sl (.int .i32)) a1 _]=>(qrl a0 a1,(.dat (.sl (.sl .byte)) (z10 a0 a1) (some (4,22))))
 | _=>(false,.bad)
def s_z75:List AV→Bool×AV
 | [de a0 _]=>(qrg a0,(.dat .str (z75 a0) none))
 | _=>(false,.bad)
def s_z76:List AV→Bool×AV
 | [.dat (.int .u64) a0 _]=>(false,(de (z76 a0) none))
 | _=>(false,.bad)
def s_z78:List AV→Bool×AV
 | [db a0 _,.dat (.int .u64) a1 _,de a2 _,dg a3 _,dg a4 _]=>(false,(.tup [(db ((z78 a0 a1 a2 a3 a4)).1 none),(.dat .str ((z78 a0 a1 a2 a3 a4)).2 none)]))
 | _=>(false,.bad)
def s_z72:List AV→Bool×AV
 | [db a0 (some (0,5)),.dat (.int .u64) a1 _,de a2 _]=>(qlw a0 a1 a2,(db (z72 a0 a1 a2) (some (6,5))))
 | _=>(false,.bad)
def s_z64:List AV→Bool×AV
 | [db a0 (some (0,5)),de a1 _,de a2 _]=>(qnD a0 a1 a2,(db (z64 a0 a1 a2) (some (6,5))))
 | _=>(false,.bad)
def s_z46:List AV→Bool×AV
 | [db a0 (some (0,5)),de a1 _,de a2 _]=>(qnE a0 a1 a2,(db (z46 a0 a1 a2) (some (6,5))))
 | _=>(false,.bad)
def s_z25:List AV→Bool×AV
 | [.dat (.pair (.sl .byte) (.pair (.int .i64) (.pair .bool (.pair (.sl .byte) .unit)))) a0 _]=>(qnF a0,(db (z25 a0) (some (2,5))))
 | _=>(false,.bad)
def s_z47:List AV→Bool×AV
 | [de a0 _]=>(true,(.dat (.sl .str) (z47 a0) (some (2,9))))
 | _=>(false,.bad)
def s_z26:List AV→Bool×AV
 | [de a0 _]=>(true,(.dat .str (z26 a0) none))
 | _=>(false,.bad)
def s_z11:List AV→Bool×AV
 | [db a0 _,de a1 _,de a2 _]=>(qec a0 a1 a2,(db (z11 a0 a1 a2) (some (6,5))))
 | _=>(false,.bad)
def s_z12:List AV→Bool×AV
 | [.dat (.sl (.sl .byte)) a0 _,db a1 _]=>(qla a0 a1,(db (z12 a0 a1) none))
 | _=>(false,.bad)
def s_z28:List AV→Bool×AV
 | [db a0 _,.pbox (.leaf .bool) a1 none,.pbox (.osl 5 .byte) a2 none,.pbox (.psl 22 (.osl 5 .byte)) a3 none,.pbox (.leaf (.sl .byte)) a4 none,.pbox (.leaf (.int .i64)) a5 none]=>((qlx a0 a1 a2 a3 a4 a5),.tup [(.tup []),.bad,(.pbox (.leaf .bool) ((z28 a0 a1 a2 a3 a4 a5).1) none),(.pbox (.osl 5 .byte) ((z28 a0 a1 a2 a3 a4 a5).2.1) none),(.pbox (.psl 22 (.osl 5 .byte)) ((z28 a0 a1 a2 a3 a4 a5).2.2.1) none),(.pbox (.leaf (.sl .byte)) ((z28 a0 a1 a2 a3 a4 a5).2.2.2.1) none),(.pbox (.leaf (.int .i64)) ((z28 a0 a1 a2 a3 a4 a5).2.2.2.2) none)])
 | _=>(false,.bad)
def s_z13:List AV→Bool×AV
 | [db a0 _,de a1 _,.dat (.sl (.sl .byte)) a2 _]=>(qly a0 a1 a2,(.dat (.sl (.sl .byte)) (z13 a0 a1 a2) none))
 | _=>(false,.bad)
def s_z5:List AV→Bool×AV
 | [db a0 _,.dat (.sl (.int .i32)) a1 _]=>(z5_ok a0 a1,(.tup [(.dat (.sl (.sl .byte)) ((z5 a0 a1).1) none),(de ((z5 a0 a1).2) none)]))
 | _=>(false,.bad)
def s_z6:List AV→Bool×AV
 | [db a0 _,.dat (.sl (.int .i32)) a1 _]=>(z6_ok a0 a1,(.tup [(db ((z6 a0 a1).1) none),(de ((z6 a0 a1).2) none)]))
 | _=>(false,.bad)
def s_z4:List AV→Bool×AV
 | []=>(true,(df z4))
 | _=>(false,.bad)
def s_z3:List AV→Bool×AV
 | [db a0 _,.dat (.sl (.int .i32)) a1 _]=>(true,(dg (z3 a0 a1) none))
 | _=>(false,.bad)
theorem qpK:qk G Tryd.prog 85 s_z85:=fun w S hg vals avs r h hS ha=>by
 unfold s_z85 at h;split at h
 ·simp only [yb,true_and] at h;subst h;exact qnH Tryd.func85 (by kernel_rfl) (by kernel_rfl) (by kernel_rfl) (by kernel_rfl) hS ha
 ·cases h
theorem qcG:qk G Tryd.prog 19 s_z19:=fun w S hg vals avs r h hS ha=>by
 unfold s_z19 at h;split at h
 ·obtain ⟨hp,rfl⟩:=yj h;exact qnJ hS ha (qJ hp)
 ·cases h
theorem qpL:qk G Tryd.prog 56 s_z56:=fun w S hg vals avs r h hS ha=>by
 unfold s_z56 at h;split at h
 ·obtain ⟨hp,rfl⟩:=yj h;have hp':=of_decide_eq_true hp;exact qnK hg hS ha hp'.1 hp'.2
 ·cases h
theorem qpM:qk G Tryd.prog 12 s_z12:=fun w S hg vals avs r h hS ha=>by
 unfold s_z12 at h;split at h
 ·obtain ⟨hp,rfl⟩:=yj h;exact qnN hS ha hp
 ·cases h
theorem qnf:qk Any Tryd.prog 76 s_z76:=fun w S hg vals avs r h hS ha=>by
 unfold s_z76 at h;split at h
 ·simp only [yb] at h;cases h.1
 ·cases h
theorem qng:qk Any Tryd.prog 78 s_z78:=fun w S hg vals avs r h hS ha=>by
 unfold s_z78 at h;split at h
 ·simp only [yb] at h;cases h.1
 ·cases h
def E_z73:EnvP:=eQ [] 46 (some [2]) nC (fun x=>if x=0 then some [3] else none) nP
def C_z73:Code:=cO Tryd.f73
def R_z73:Array ResultVar:=Tryd.f73.results
theorem qxr (n:Nat) (c0:UInt8) (o0:Lab):evFnP E_z73 n C_z73 R_z73 [di c0 o0]=quc n c0:=by
 kernel_rfl
theorem qpN:qk G Tryd.prog 73 s_z73:=by
 refine sQ (E:=E_z73) (c:=C_z73) rfl (fun w S hg=>qe) Tryd.func73 ?_;intro avs r h;unfold s_z73 at h;split at h <;> cases h
 obtain ⟨n,hn⟩:=quQ _;exact ⟨n,_,(qxr n _ _).trans hn,.inl rfl⟩
def E_z84:EnvP:=eQ [(85,s_z85)] 8 (some [4]) nC nC nP
def C_z84:Code:=cO Tryd.f84
def R_z84:Array ResultVar:=Tryd.f84.results
theorem qxs (n:Nat) (s0:List UInt8) (o0:Lab) (c1:UInt8) (o1:Lab):evFnP E_z84 n C_z84 R_z84 [.dat .str s0 o0,di c1 o1]=qwP n s0 c1:=by
 kernel_rfl
theorem qpO:qk G Tryd.prog 84 s_z84:=by
 refine sQ (E:=E_z84) (c:=C_z84) rfl (fun w S hg=>(qb (qpK w S hg) qe)) Tryd.func84 ?_;intro avs r h;unfold s_z84 at h;split at h <;> cases h
 obtain ⟨n,hn⟩:=quR _ _;exact ⟨n,_,(qxs n _ _ _ _).trans hn,.inl rfl⟩
def E_z79:EnvP:=eQ [(84,s_z84)] 8 (some [4]) nC nC nP
def C_z79:Code:=cO Tryd.f79
def R_z79:Array ResultVar:=Tryd.f79.results
theorem qxt (n:Nat) (s0:List UInt8) (o0:Lab) (c1:UInt8) (o1:Lab):evFnP E_z79 n C_z79 R_z79 [.dat .str s0 o0,di c1 o1]=qwQ n s0 c1:=by
 kernel_rfl
theorem qpP:qk G Tryd.prog 79 s_z79:=by
 refine sQ (E:=E_z79) (c:=C_z79) rfl (fun w S hg=>(qb (qpO w S hg) qe)) Tryd.func79 ?_;intro avs r h;unfold s_z79 at h;split at h <;> cases h
 obtain ⟨n,hn⟩:=quS _ _;exact ⟨n,_,(qxt n _ _ _ _).trans hn,.inl rfl⟩
def E_z74:EnvP:=eQ [(79,s_z79)] 9 (some [4]) nC nC nP
def C_z74:Code:=cO Tryd.f74
def R_z74:Array ResultVar:=Tryd.f74.results
theorem qxu (n:Nat) (s0:List UInt8) (o0:Lab) (c1:UInt8) (o1:Lab):evFnP E_z74 n C_z74 R_z74 [.dat .str s0 o0,di c1 o1]=qwR n s0 c1:=by
 kernel_rfl
theorem qpQ:qk G Tryd.prog 74 s_z74:=by
 refine sQ (E:=E_z74) (c:=C_z74) rfl (fun w S hg=>(qb (qpP w S hg) qe)) Tryd.func74 ?_;intro avs r h;unfold s_z74 at h;split at h <;> cases h
 obtain ⟨n,hn⟩:=quT _ _;exact ⟨n,_,(qxu n _ _ _ _).trans hn,.inl rfl⟩
def E_z70:EnvP:=eQ [(73,s_z73),(74,s_z74)] 35 (some [2]) nC nC nP
def C_z70:Code:=cO Tryd.f70
def R_z70:Array ResultVar:=Tryd.f70.results
theorem qxv (n:Nat) (c0:UInt8) (o0:Lab):evFnP E_z70 n C_z70 R_z70 [di c0 o0]=qud n c0:=by
 kernel_rfl
theorem qpR:qk G Tryd.prog 70 s_z70:=by
 refine sQ (E:=E_z70) (c:=C_z70) rfl (fun w S hg=>(qb (qpN w S hg) (qb (qpQ w S hg) qe))) Tryd.func70 ?_;intro avs r h;unfold s_z70 at h;split at h <;> cases h
 obtain ⟨n,hn⟩:=quU _;exact ⟨n,_,(qxv n _ _).trans hn,.inl rfl⟩
def E_z62:EnvP:=eQ [(70,s_z70)] 10 (some [4]) nC nC nP
def C_z62:Code:=cO Tryd.f62
def R_z62:Array ResultVar:=Tryd.f62.results
theorem qxw (n:Nat) (c0:UInt8) (o0:Lab) (kinds1:Int) (o1:Lab):evFnP E_z62 n C_z62 R_z62 [di c0 o0,de kinds1 o1]=qwS n c0 kinds1:=by
 kernel_rfl
theorem qjI:qk G Tryd.prog 62 s_z62:=by
 refine sQ (E:=E_z62) (c:=C_z62) rfl (fun w S hg=>(qb (qpR w S hg) qe)) Tryd.func62 ?_;intro avs r h;unfold s_z62 at h;split at h <;> cases h
 obtain ⟨n,hn⟩:=quV _ _;exact ⟨n,_,(qxw n _ _ _ _).trans hn,.inl rfl⟩
def E_z48:EnvP:=eQ [(62,s_z62)] 21 (some [4]) (fun x=>if x=3 then some [1,5,8,9,10] else none) (fun x=>if x=0 then some [5] else if x=1 then some [1,5,8,9,10] else none) nP
def C_z48:Code:=cO Tryd.f48
def R_z48:Array ResultVar:=Tryd.f48.results
noncomputable def qhJ (K:Ex→Fr→Option AV):=fun n5=>K (.exit 0) (frOf [(5,dc n5)])
def qjJ (n:Nat):Ex→Fr→Option AV:=qL 0 (E_z48.cutb 0) (kSeq (evCP E_z48 (evLP E_z48 n) (sub C_z48 [1,1,1])) (kFnP E_z48 R_z48))
def qnh (kinds1:Int) (n5:Int) (s8:List UInt8) (s9:Int) (s10:Int):Fr:=frOf [(1,dc kinds1),(5,dc n5),(8,da s8),(9,dc s9),(10,dc s10)]
theorem qpS (K:Ex→Fr→Option AV):∀ (n:Nat) (kinds1:Int) (n5:Int) (s8:List UInt8) (s9:Int) (s10:Int),evLP E_z48 n (sub C_z48 [1,1,0,1,0,0]) K (qnh kinds1 n5 s8 s9 s10)=qgN (qhJ K) n kinds1 n5 s8 s9 s10:=by
 intro n;induction n with
 | zero=>intros; rfl
 | succ n IH =>
 intro kinds1 n5 s8 s9 s10;have ih:(fun kinds1 n5 s8 s9 s10=>evLP E_z48 n (sub C_z48 [1,1,0,1,0,0]) K (qnh kinds1 n5 s8 s9 s10))=qgN (qhJ K) n:=by
  funext kinds1 n5 s8 s9 s10;exact IH kinds1 n5 s8 s9 s10
 show _=qdj (qhJ K) (qgN (qhJ K) n) n kinds1 n5 s8 s9 s10;rw [← ih];kernel_rfl
theorem qlh (n:Nat) (n5:Int):(qjJ n) (.exit 0) (frOf [(5,dc n5)])=qff n n5:=by
 kernel_rfl
theorem qxx (n:Nat) (s0:List UInt8) (o0:Lab) (kinds1:Int) (o1:Lab):evFnP E_z48 n C_z48 R_z48 [db s0 o0,de kinds1 o1]=qro n s0 kinds1:=by
 unfold qro;rw [show qgN (qff n) n=(fun kinds1 n5 s8 s9 s10=>evLP E_z48 n (sub C_z48 [1,1,0,1,0,0]) (qjJ n) (qnh kinds1 n5 s8 s9 s10)) from by
  funext kinds1 n5 s8 s9 s10;refine Eq.trans ?_ (qpS (qjJ n) n kinds1 n5 s8 s9 s10).symm;rw [show (qhJ (qjJ n))=(qff n) from by
   funext n5;exact qlh n n5]
  all_goals kernel_rfl]
 kernel_rfl
theorem qpT:qk G Tryd.prog 48 s_z48:=by
 refine sQ (E:=E_z48) (c:=C_z48) rfl (fun w S hg=>(qb (qjI w S hg) qe)) Tryd.func48 ?_;intro avs r h;unfold s_z48 at h;split at h
 ·obtain ⟨hp,rfl⟩:=yj h;obtain ⟨n,hn⟩:=qvI _ _ hp;exact ⟨n,_,(qxx n _ _ _ _).trans hn,.inl rfl⟩
 ·cases h
def E_z29:EnvP:=eQ [(48,s_z48)] 11 (some [4]) nC nC nP
def C_z29:Code:=cO Tryd.f29
def R_z29:Array ResultVar:=Tryd.f29.results
theorem qxy (n:Nat) (s0:List UInt8) (o0:Lab) (kinds1:Int) (o1:Lab):evFnP E_z29 n C_z29 R_z29 [db s0 o0,de kinds1 o1]=que n s0 kinds1:=by
 kernel_rfl
theorem qjK:qk G Tryd.prog 29 s_z29:=by
 refine sQ (E:=E_z29) (c:=C_z29) rfl (fun w S hg=>(qb (qpT w S hg) qe)) Tryd.func29 ?_;intro avs r h;unfold s_z29 at h;split at h
 ·obtain ⟨hp,rfl⟩:=yj h;obtain ⟨n,hn⟩:=qvJ _ _ hp;exact ⟨n,_,(qxy n _ _ _ _).trans hn,.inl rfl⟩
 ·cases h
end
end Go.Av
