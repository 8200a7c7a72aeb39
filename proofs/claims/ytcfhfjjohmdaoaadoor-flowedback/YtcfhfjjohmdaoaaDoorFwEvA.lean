import Derived.Test.YtcfhfjjohmdaoaaDoorFwP6
import Derived.Test.YtcfhfjjohmdaoaaDoorFwWalk
import Derived.Test.YtcfhfjjohmdaoaaDoorProg
import Derived.KernelRfl
namespace Go.Av
set_option linter.unusedSimpArgs false
noncomputable section
open Go.Proofs
set_option maxRecDepth 100000
set_option linter.unusedVariables false
def tis:List (TypeId×TI):=[(2,⟨some (.int .i64),8,0⟩),
 (3,⟨some (.int .i64),8,0⟩),
 (4,⟨some .bool,1,0⟩),
 (5,⟨some .byte,1,0⟩),
 (6,⟨some .byte,1,0⟩),
 (7,⟨some (.pair (.int .i64) (.pair (.int .i64) (.pair .bool (.pair .byte .unit)))),24,0⟩),
 (8,⟨some (.pair (.int .i64) (.pair (.int .i64) (.pair .bool (.pair .byte .unit)))),24,0⟩),
 (9,⟨some .str,16,0⟩),
 (10,⟨some .str,16,0⟩),
 (11,⟨some .str,16,0⟩),
 (12,⟨some (.int .u64),8,0⟩),
 (13,⟨some (.pair .str (.pair (.int .u64) .unit)),24,0⟩),
 (14,⟨some (.pair .str (.pair (.int .u64) .unit)),24,0⟩),
 (21,⟨some (.int .i32),4,0⟩),
 (22,⟨some (.sl .byte),24,5⟩),
 (30,⟨some (.int .i64),8,0⟩),
 (35,⟨some (.sl (.pair (.sl .byte) (.pair (.sl .byte) .unit))),24,47⟩),
 (38,⟨some (.sl (.pair (.sl .byte) (.pair (.sl .byte) .unit))),24,50⟩),
 (41,⟨some (.sl (.sl .byte)),24,22⟩),
 (46,⟨some (.pair (.sl .byte) (.pair (.sl .byte) .unit)),48,0⟩),
 (47,⟨some (.pair (.sl .byte) (.pair (.sl .byte) .unit)),48,0⟩),
 (50,⟨some (.pair (.sl .byte) (.pair (.sl .byte) .unit)),48,0⟩),
 (57,⟨some (.sl (.pair (.int .i64) (.pair (.sl .byte) .unit))),24,77⟩),
 (59,⟨some (.sl (.pair (.int .i64) (.pair (.sl .byte) .unit))),24,79⟩),
 (76,⟨some (.pair (.int .i64) (.pair (.sl .byte) .unit)),32,0⟩),
 (77,⟨some (.pair (.int .i64) (.pair (.sl .byte) .unit)),32,0⟩),
 (79,⟨some (.pair (.int .i64) (.pair (.sl .byte) .unit)),32,0⟩),
 (81,⟨some (.pair (.sl (.pair (.int .i64) (.pair (.sl .byte) .unit))) (.pair .bool .unit)),32,0⟩),
 (82,⟨some (.pair (.sl (.pair (.int .i64) (.pair (.sl .byte) .unit))) (.pair .bool .unit)),32,0⟩),
 (98,⟨some (.arr 256 .bool),256,4⟩),
 (99,⟨some (.arr 256 .bool),256,4⟩),
 (104,⟨some (.int .u64),8,0⟩),
 (119,⟨some (.int .u32),4,0⟩),
 (122,⟨some (.int .u64),8,0⟩),
 (127,⟨some (.arr 4 .byte),4,5⟩),
 (129,⟨some (.arr 256 .byte),256,5⟩),
 (130,⟨some (.pair .byte (.pair .byte .unit)),2,0⟩),
 (131,⟨some (.pair .byte (.pair .byte .unit)),2,0⟩),
 (132,⟨some (.arr 16 (.pair .byte (.pair .byte .unit))),32,131⟩),
 (140,⟨some .byte,1,0⟩),
 (141,⟨some .byte,1,0⟩),
 (144,⟨some (.int .i32),4,0⟩),
 (145,⟨some (.int .i32),4,0⟩)]
theorem qeo:(tis.all fun p=>tyB Tryd.prog (tiOf tis) p.1)=true:=by kernel_rfl
theorem follows:Tryd.prog.follows .mixedOrders=true:=by kernel_rfl
abbrev FnL:=List (FuncId×(List AV→Bool×AV))
abbrev CutL:=Nat→Option (List Nat)
def eQ (l:FnL) (nt:Nat) (r:Option (List Nat)) (a b:CutL) (p:Nat→Option PSh):EnvP:=⟨⟨tiOf tis,fnsOf l,cnsOf [],[],nt,a,b,r⟩,p,fun _=>none,fun _=>[],fun _=>none,fun _=>none,fun _=>none,fun _=>none⟩
def cO (f:Func):Code:=f.body.getD .skip
def nC:CutL:=fun _=>none
def nP:Nat→Option PSh:=fun _=>none
theorem sQ {E:EnvP} {l:FnL} {nt:Nat} {r:Option (List Nat)} {a b:CutL} {p:Nat→Option PSh} {f:FuncId} {fn:Func} {c:Code} {spec:List AV→Bool×AV} (hE:E=eQ l nt r a b p) (hl:∀ w S,G w S→∀ f,qbx Tryd.prog f (fnsOf l f) w S)
 (hf:Tryd.prog.funcs[f]? = some fn) (hspec:∀ avs r',spec avs=(true,r')→∃ n v,evFnP E n c fn.results avs=some v∧(v=r'∨v.strip=r')) (hb:fn.body=some c:=by kernel_rfl) (hnt:fn.ntmps=nt:=by kernel_rfl) (hname:(fn.name == "runtime.NumGoroutine")=false:=by kernel_rfl):qp G Tryd.prog f spec:=by
 subst hE;exact qF G_stays (E:=eQ l nt r a b p) (qn rfl qeo) (fun w S hg=>⟨⟨hl w S hg,fun f sp h=>qbT f sp h w S⟩,qjE w S hg,(fun _ _ h=>by cases h),(fun f sp h=>qcQ f sp h),(fun f it h=>qcS f it h),(fun t kt vt h=>qcR t kt vt h)⟩) follows hf hb hnt hname hspec
def s_bytes_trimLeftByteF:List AV→Bool×AV
 | [db a0 _,.dat .byte a1 _]=>(qB a0 a1,(db (qN a0 a1) none))
 | _=>(false,.bad)
def s_z92:List AV→Bool×AV
 | [df a0 _]=>(qjB a0,(.tup [(.dat (.arr 256 .bool) ((z92 a0).1) none),(dh ((z92 a0).2) none)]))
 | _=>(false,.bad)
def s_z108:List AV→Bool×AV
 | [.adr (.arr 256 .bool) a0,.dat .byte a1 _]=>(true,(dh (z108 a0 a1) none))
 | _=>(false,.bad)
def s_z93:List AV→Bool×AV
 | [db a0 _,.adr (.arr 256 .bool) a1]=>(qsa a0 a1,(db (z93 a0 a1) none))
 | _=>(false,.bad)
def s_z109:List AV→Bool×AV
 | [db a0 _]=>(qjA a0,(.tup [(.dat (.int .i32) ((z109 a0).1) none),(de ((z109 a0).2) none)]))
 | _=>(false,.bad)
def s_z94:List AV→Bool×AV
 | [db a0 _,df a1 _]=>(quK a0 a1,(db (z94 a0 a1) none))
 | _=>(false,.bad)
def s_z76:List AV→Bool×AV
 | [db a0 _,df a1 _]=>(qoj a0 a1,(db (z76 a0 a1) none))
 | _=>(false,.bad)
def s_z42:List AV→Bool×AV
 | [db a0 _]=>(qkh a0,(de (z42 a0) none))
 | _=>(false,.bad)
def s_z60:List AV→Bool×AV
 | [db a0 _]=>(qie a0,(db (z60 a0) (some (0,5))))
 | _=>(false,.bad)
def s_z96:List AV→Bool×AV
 | [db a0 _,db a1 _]=>(true,(dh (z96 a0 a1) none))
 | _=>(false,.bad)
def s_z95:List AV→Bool×AV
 | [db a0 _,db a1 _]=>(true,(dh (z95 a0 a1) none))
 | _=>(false,.bad)
def s_z77:List AV→Bool×AV
 | [db a0 _,db a1 _]=>(true,(db (z77 a0 a1) none))
 | _=>(false,.bad)
def s_z44:List AV→Bool×AV
 | [db a0 _]=>(qdi a0,(db (z44 a0) (some (2,5))))
 | _=>(false,.bad)
def s_z78:List AV→Bool×AV
 | [db a0 _,db a1 _]=>(qlp a0 a1,(dh (z78 a0 a1) none))
 | _=>(false,.bad)
def s_z46:List AV→Bool×AV
 | [db a0 _]=>(qgj a0,(dh (z46 a0) none))
 | _=>(false,.bad)
def s_z69:List AV→Bool×AV
 | [.pbox (.ppair (.psl 77 (.ppair (.leaf (.int .i64)) (.ppair (.osl 5 .byte) (.leaf .unit)))) (.ppair (.leaf .bool) (.leaf .unit))) a0 none,db a1 _]=>((qok a0 a1),.tup [(.tup []),(.pbox (.ppair (.psl 77 (.ppair (.leaf (.int .i64)) (.ppair (.osl 5 .byte) (.leaf .unit)))) (.ppair (.leaf .bool) (.leaf .unit))) (z69 a0 a1) none),.bad])
 | _=>(false,.bad)
def s_z120:List AV→Bool×AV
 | [db a0 _,.dat .byte a1 _]=>(true,(de (z120 a0 a1) none))
 | _=>(false,.bad)
def s_z99:List AV→Bool×AV
 | [db a0 _,.dat .byte a1 _]=>(true,(de (z99 a0 a1) none))
 | _=>(false,.bad)
def s_z81:List AV→Bool×AV
 | [db a0 _,db a1 _]=>(qjC a0 a1,(de (z81 a0 a1) none))
 | _=>(false,.bad)
def s_z51:List AV→Bool×AV
 | [db a0 _,db a1 _]=>(qnH a0 a1,(.tup [(db ((z51 a0 a1).1) none),(db ((z51 a0 a1).2.1) none),(dh ((z51 a0 a1).2.2) none)]))
 | _=>(false,.bad)
def s_z70:List AV→Bool×AV
 | [db a0 _]=>(qsW a0,(.dat (.sl (.sl .byte)) (z70 a0) (some (2,22))))
 | _=>(false,.bad)
def s_z36:List AV→Bool×AV
 | [db a0 _]=>(qlq a0,(.dat (.sl (.pair (.int .i64) (.pair (.sl .byte) .unit))) (z36 a0) none))
 | _=>(false,.bad)
def s_z105:List AV→Bool×AV
 | [df a0 _,.dat .byte a1 _]=>(true,(de (z105 a0 a1) none))
 | _=>(false,.bad)
def s_z106:List AV→Bool×AV
 | [db a0 _,.dat (.int .i32) a1 _]=>(qpN a0 a1,(de (z106 a0 a1) none))
 | _=>(false,.bad)
def s_z107:List AV→Bool×AV
 | [de a0 _]=>(true,(dh (z107 a0) none))
 | _=>(false,.bad)
def s_z83:List AV→Bool×AV
 | [db a0 _,df a1 _]=>(qle a0 a1,(de (z83 a0 a1) none))
 | _=>(false,.bad)
def s_z53:List AV→Bool×AV
 | [db a0 _,df a1 _]=>(qpO a0 a1,(dh (z53 a0 a1) none))
 | _=>(false,.bad)
def s_z88:List AV→Bool×AV
 | [db a0 _,db a1 _]=>(qpP a0 a1,(dh (z88 a0 a1) none))
 | _=>(false,.bad)
def s_z72:List AV→Bool×AV
 | [.dat (.pair (.int .i64) (.pair (.sl .byte) .unit)) a0 _]=>(qqI a0,(dh (z72 a0) none))
 | _=>(false,.bad)
def s_z80:List AV→Bool×AV
 | [db a0 _]=>(qwU a0,(dh (z80 a0) none))
 | _=>(false,.bad)
def s_z48:List AV→Bool×AV
 | [de a0 _,db a1 _]=>(qdj a0 a1,(db (z48 a0 a1) (some (0,5))))
 | _=>(false,.bad)
def s_z90:List AV→Bool×AV
 | [de a0 _,db a1 _,de a2 _]=>(qol a0 a1 a2,(de (z90 a0 a1 a2) none))
 | _=>(false,.bad)
def s_z73:List AV→Bool×AV
 | [db a0 (some (0,5)),.dat (.pair (.int .i64) (.pair (.sl .byte) .unit)) a1 _,de a2 _]=>(qon a0 a1 a2,(db (z73 a0 a1 a2) (some (6,5))))
 | _=>(false,.bad)
def s_z39:List AV→Bool×AV
 | [.dat (.sl (.pair (.int .i64) (.pair (.sl .byte) .unit))) a0 _,de a1 _]=>(qlr a0 a1,(.tup [(db ((z39 a0 a1).1) none),(de ((z39 a0 a1).2) none)]))
 | _=>(false,.bad)
def s_z34:List AV→Bool×AV
 | []=>(true,(dg z34))
 | _=>(false,.bad)
def s_z15:List AV→Bool×AV
 | [db a0 _,db a1 _]=>(qha a0 a1,(dh (z15 a0 a1) none))
 | _=>(false,.bad)
def s_z68:List AV→Bool×AV
 | [.dat (.pair (.int .i64) (.pair (.sl .byte) .unit)) a0 _,.dat (.pair (.int .i64) (.pair (.sl .byte) .unit)) a1 _]=>(qqK a0 a1,(dh (z68 a0 a1) none))
 | _=>(false,.bad)
def s_z35:List AV→Bool×AV
 | [.dat (.sl (.pair (.int .i64) (.pair (.sl .byte) .unit))) a0 _,.dat (.sl (.pair (.int .i64) (.pair (.sl .byte) .unit))) a1 _]=>(qiu a0 a1,(dh (z35 a0 a1) none))
 | _=>(false,.bad)
def s_z43:List AV→Bool×AV
 | [db a0 _]=>(qki a0,(de (z43 a0) none))
 | _=>(false,.bad)
def s_z45:List AV→Bool×AV
 | [db a0 _]=>(qhb a0,(db (z45 a0) none))
 | _=>(false,.bad)
def s_z47:List AV→Bool×AV
 | [db a0 _]=>(qkj a0,(dh (z47 a0) none))
 | _=>(false,.bad)
def s_z71:List AV→Bool×AV
 | [db a0 _]=>(qsb a0,(.tup [(.dat (.sl (.sl .byte)) ((z71 a0).1) none),(dh ((z71 a0).2) none)]))
 | _=>(false,.bad)
def s_z37:List AV→Bool×AV
 | [db a0 _]=>(qsX a0,(.dat (.sl (.pair (.int .i64) (.pair (.sl .byte) .unit))) (z37 a0) none))
 | _=>(false,.bad)
def s_z9:List AV→Bool×AV
 | [db a0 _]=>(true,(dh (z9 a0) none))
 | _=>(false,.bad)
def s_z38:List AV→Bool×AV
 | [.dat (.sl (.pair (.int .i64) (.pair (.sl .byte) .unit))) a0 _]=>(qop a0,(dh (z38 a0) none))
 | _=>(false,.bad)
def s_z40:List AV→Bool×AV
 | [.dat (.sl (.pair (.int .i64) (.pair (.sl .byte) .unit))) a0 _]=>(qoo a0,(.dat (.sl (.pair (.int .i64) (.pair (.sl .byte) .unit))) (z40 a0) (some (2,77))))
 | _=>(false,.bad)
def s_z49:List AV→Bool×AV
 | [de a0 _,db a1 _]=>(qcO a0 a1,(db (z49 a0 a1) (some (4,5))))
 | _=>(false,.bad)
def s_z74:List AV→Bool×AV
 | [.dat (.pair (.int .i64) (.pair (.sl .byte) .unit)) a0 _]=>(qqJ a0,(dh (z74 a0) none))
 | _=>(false,.bad)
def s_z75:List AV→Bool×AV
 | [de a0 _,db a1 _,de a2 _]=>(qom a0 a1 a2,(de (z75 a0 a1 a2) none))
 | _=>(false,.bad)
def s_z41:List AV→Bool×AV
 | [.dat (.sl (.pair (.int .i64) (.pair (.sl .byte) .unit))) a0 _,de a1 _]=>(qsY a0 a1,(.tup [(db ((z41 a0 a1).1) none),(de ((z41 a0 a1).2) none)]))
 | _=>(false,.bad)
def s_z10:List AV→Bool×AV
 | [.dat (.sl (.pair (.int .i64) (.pair (.sl .byte) .unit))) a0 _,de a1 _]=>(true,(dh (z10 a0 a1) none))
 | _=>(false,.bad)
def s_z11:List AV→Bool×AV
 | [db a0 _,de a1 _]=>(true,(dh (z11 a0 a1) none))
 | _=>(false,.bad)
def s_z12:List AV→Bool×AV
 | [.dat (.sl (.pair (.int .i64) (.pair (.sl .byte) .unit))) a0 _,de a1 _]=>(true,(dh (z12 a0 a1) none))
 | _=>(false,.bad)
theorem qpU:qp G Tryd.prog 105 s_z105:=fun w S hg vals avs r h hS ha=>by
 unfold s_z105 at h;split at h
 ·simp only [yb,true_and] at h;subst h;exact qnI Tryd.func105 (by kernel_rfl) (by kernel_rfl) (by kernel_rfl) (by kernel_rfl) hS ha
 ·cases h
def s_z110 (m0:Int):List AV→Bool×AV
 | [df a0 _,df a1 _]=>(qjz m0 a0 a1,(de (z110 a0 a1) none))
 | _=>(false,.bad)
theorem qpV (m0:Int):qp (Gm m0) Tryd.prog 110 (s_z110 m0):=fun w S hg vals avs r h hS ha=>by
 unfold s_z110 at h;split at h
 ·obtain ⟨hp,rfl⟩:=yj h;simp only [qjz,yf,ym] at hp;have hm:w.cell? ⟨0,0,none⟩=some (.int .i64 m0):=by
   cases hg.2 0 (.int .i64) m0 rfl with
   | adr _ _ ad cs h1 h2 =>
    have e:cs=[.int .i64 m0]:=h1;subst e;exact ((h2.2 (by simp)).2 0 _ rfl).2
  exact qnJ Tryd.func110 (by kernel_rfl) (by kernel_rfl) (by kernel_rfl) (by kernel_rfl) (g:=0) (by kernel_rfl) hm hS ha hp.1.1 hp.1.2 hp.2
 ·cases h
theorem qpW:qp G Tryd.prog 106 s_z106:=fun w S hg vals avs r h hS ha=>by
 unfold s_z106 at h;split at h
 ·simp only [yb] at h;cases h.1
 ·cases h
theorem qpX:qp G Tryd.prog 109 s_z109:=fun w S hg vals avs r h hS ha=>by
 unfold s_z109 at h;split at h
 ·obtain ⟨hp,rfl⟩:=yj h;obtain ⟨m,hm⟩:=hg;exact qnK hm.1 hS ha (by simpa [qjA] using hp)
 ·cases h
theorem qmd:qp G Tryd.prog 81 s_z81:=fun w S hg vals avs r h hS ha=>by
 unfold s_z81 at h;split at h
 ·obtain ⟨hp,rfl⟩:=yj h;unfold qjC at hp;simp only [yf,ym] at hp;obtain ⟨m,hm⟩:=hg;have hc:w.cell? ⟨0,0,none⟩=some (.int .i64 m):=by
   cases hm.2 0 (.int .i64) m rfl with
   | adr _ _ ad cs h1 h2 =>
    have e:cs=[.int .i64 m]:=h1;subst e;exact ((h2.2 (by simp)).2 0 _ rfl).2
  exact qpS hc hS ha (qm hp.1) (qm hp.2.1) hp.2.2
 ·cases h
theorem qme:qp G Tryd.prog 60 s_z60:=fun w S hg vals avs r h hS ha=>by
 unfold s_z60 at h;split at h
 ·obtain ⟨hp,rfl⟩:=yj h;exact qpT hS ha (qm hp)
 ·cases h
theorem qse:qp G Tryd.prog 94 s_z94:=fun w S hg vals avs r h hS ha=>by
 unfold s_z94 at h;split at h
 ·simp only [yb] at h;cases h.1
 ·cases h
theorem qnM:qp Any Tryd.prog 120 s_z120:=fun w S hg vals avs r h hS ha=>by
 unfold s_z120 at h;split at h
 ·simp only [yb,true_and] at h;subst h;exact qoq hS ha
 ·cases h
theorem glAny (w:World) (S:qa) (_:Any w S):GlOk (fun _=>none) w S:=fun g s x h=>by cases h
def qi:EnvP:=eQ [] 21 (some [1000004]) (fun x=>if x=1 then some [0,1] else none) (fun x=>if x=0 then some [0] else if x=1 then some [0,1] else none) nP
def qu:Code:=cO Tryd.f91
def qaP:Array ResultVar:=Tryd.f91.results
noncomputable def qw (K:Ex→Fr→Option AV):=fun s0=>K (.exit 0) (frOf [(0,da s0)])
def qH (n:Nat):Ex→Fr→Option AV:=qL 0 (qi.cutb 0) (kSeq (evCP qi (evLP qi n) (sub qu [1,1])) (kFnP qi qaP))
def qW (s0:List UInt8) (c1:UInt8):Fr:=frOf [(0,da s0),(1,(.dat .byte c1 none))]
theorem qbC (K:Ex→Fr→Option AV):∀ (n:Nat) (s0:List UInt8) (c1:UInt8),evLP qi n (sub qu [1,0,0,0]) K (qW s0 c1)=qh (qw K) n s0 c1:=by
 intro n;induction n with
 | zero=>intros; rfl
 | succ n IH =>
 intro s0 c1;have ih:(fun s0 c1=>evLP qi n (sub qu [1,0,0,0]) K (qW s0 c1))=qh (qw K) n:=by
  funext s0 c1;exact IH s0 c1
 show _=qE (qw K) (qh (qw K) n) n s0 c1;rw [← ih];kernel_rfl
theorem qbk (n:Nat) (s0:List UInt8):(qH n) (.exit 0) (frOf [(0,da s0)])=qr n s0:=by
 kernel_rfl
theorem qcm (n:Nat) (s0:List UInt8) (o0:Lab) (c1:UInt8) (o1:Lab):evFnP qi n qu qaP [db s0 o0,.dat .byte c1 o1]=qO n s0 c1:=by
 unfold qO;rw [show qh (qr n) n=(fun s0 c1=>evLP qi n (sub qu [1,0,0,0]) (qH n) (qW s0 c1)) from by
  funext s0 c1;refine Eq.trans ?_ (qbC (qH n) n s0 c1).symm;rw [show (qw (qH n))=(qr n) from by
   funext s0;exact qbk n s0]
  all_goals kernel_rfl]
 kernel_rfl
theorem qbD:qp G Tryd.prog 91 s_bytes_trimLeftByteF:=by
 refine sQ (E:=qi) (c:=qu) rfl (fun w S hg=>ql) Tryd.func91 ?_;intro avs r h;unfold s_bytes_trimLeftByteF at h;split at h
 ·obtain ⟨hp,rfl⟩:=yj h;obtain ⟨n,hn⟩:=qbP _ _ hp;exact ⟨n,_,(qcm n _ _ _ _).trans hn,.inl rfl⟩
 ·cases h
def E_z92:EnvP:=eQ [] 21 (some [2,3]) (fun x=>if x=2 then some [0,2,4] else none) (fun x=>if x=0 then some [2] else if x=1 then some [0,2,4] else none) nP
def C_z92:Code:=cO Tryd.f92
def R_z92:Array ResultVar:=Tryd.f92.results
noncomputable def qmf (K:Ex→Fr→Option AV):=fun as2 ok3=>K .ret (frOf [(2,(.box (.arr 256 .bool) as2)),(3,dg ok3)])
noncomputable def qjG (K:Ex→Fr→Option AV):=fun as2=>K (.exit 0) (frOf [(2,(.box (.arr 256 .bool) as2))])
def qmg (n:Nat):Ex→Fr→Option AV:=qL 0 (E_z92.cutb 0) (kSeq (evCP E_z92 (evLP E_z92 n) (sub C_z92 [1,1])) (kFnP E_z92 R_z92))
def qpY (chars0:List UInt8) (as2:List Bool) (i4:Int):Fr:=frOf [(0,(df chars0 none)),(2,(.box (.arr 256 .bool) as2)),(4,dc i4)]
theorem qsf (K:Ex→Fr→Option AV):∀ (n:Nat) (chars0:List UInt8) (as2:List Bool) (i4:Int),evLP E_z92 n (sub C_z92 [1,0,1,0,0]) K (qpY chars0 as2 i4)=qiy (qmf K) (qjG K) n chars0 as2 i4:=by
 intro n;induction n with
 | zero=>intros; rfl
 | succ n IH =>
 intro chars0 as2 i4;have ih:(fun chars0 as2 i4=>evLP E_z92 n (sub C_z92 [1,0,1,0,0]) K (qpY chars0 as2 i4))=qiy (qmf K) (qjG K) n:=by
  funext chars0 as2 i4;exact IH chars0 as2 i4
 show _=qes (qmf K) (qjG K) (qiy (qmf K) (qjG K) n) n chars0 as2 i4;rw [← ih];kernel_rfl
theorem qnN (n:Nat) (as2:List Bool):(qmg n) (.exit 0) (frOf [(2,(.box (.arr 256 .bool) as2))])=qgp n as2:=by
 kernel_rfl
theorem qxp (n:Nat) (chars0:List UInt8) (o0:Lab):evFnP E_z92 n C_z92 R_z92 [df chars0 o0]=qvv n chars0:=by
 unfold qvv;rw [show qiy qks (qgp n) n=(fun chars0 as2 i4=>evLP E_z92 n (sub C_z92 [1,0,1,0,0]) (qmg n) (qpY chars0 as2 i4)) from by
  funext chars0 as2 i4;refine Eq.trans ?_ (qsf (qmg n) n chars0 as2 i4).symm;rw [show (qjG (qmg n))=(qgp n) from by
   funext as2;exact qnN n as2]
  all_goals kernel_rfl]
 kernel_rfl
theorem qmh:qp G Tryd.prog 92 s_z92:=by
 refine sQ (E:=E_z92) (c:=C_z92) rfl (fun w S hg=>ql) Tryd.func92 ?_;intro avs r h;unfold s_z92 at h;split at h
 ·obtain ⟨hp,rfl⟩:=yj h;obtain ⟨n,hn⟩:=qvR _ hp;exact ⟨n,_,(qxp n _ _).trans hn,.inl rfl⟩
 ·cases h
def qwL:EnvP:=eQ [] 10 (some [4]) nC nC nP
def qwM:Code:=cO Tryd.f108
def qxq:Array ResultVar:=Tryd.f108.results
theorem qwN (n:Nat) (as0:List Bool) (c1:UInt8) (o1:Lab):evFnP qwL n qwM qxq [.adr (.arr 256 .bool) as0,.dat .byte c1 o1]=qqY n as0 c1:=by
 kernel_rfl
theorem qjH:qp G Tryd.prog 108 s_z108:=by
 refine sQ (E:=qwL) (c:=qwM) rfl (fun w S hg=>ql) Tryd.func108 ?_;intro avs r h;unfold s_z108 at h;split at h <;> cases h
 obtain ⟨n,hn⟩:=qtx _ _;exact ⟨n,_,(qwN n _ _ _).trans hn,.inl rfl⟩
def E_z93:EnvP:=eQ [(108,s_z108)] 20 (some [1000004]) (fun x=>if x=1 then some [0,1] else none) (fun x=>if x=0 then some [0] else if x=1 then some [0,1] else none) nP
def C_z93:Code:=cO Tryd.f93
def R_z93:Array ResultVar:=Tryd.f93.results
noncomputable def qjI (K:Ex→Fr→Option AV):=fun s0=>K (.exit 0) (frOf [(0,da s0)])
def qmi (n:Nat):Ex→Fr→Option AV:=qL 0 (E_z93.cutb 0) (kSeq (evCP E_z93 (evLP E_z93 n) (sub C_z93 [1,1])) (kFnP E_z93 R_z93))
def qpZ (s0:List UInt8) (as1:List Bool):Fr:=frOf [(0,da s0),(1,(.adr (.arr 256 .bool) as1))]
theorem qsg (K:Ex→Fr→Option AV):∀ (n:Nat) (s0:List UInt8) (as1:List Bool),evLP E_z93 n (sub C_z93 [1,0,0,0]) K (qpZ s0 as1)=qkt (qjI K) n s0 as1:=by
 intro n;induction n with
 | zero=>intros; rfl
 | succ n IH =>
 intro s0 as1;have ih:(fun s0 as1=>evLP E_z93 n (sub C_z93 [1,0,0,0]) K (qpZ s0 as1))=qkt (qjI K) n:=by
  funext s0 as1;exact IH s0 as1
 show _=qiz (qjI K) (qkt (qjI K) n) n s0 as1;rw [← ih];kernel_rfl
theorem qnO (n:Nat) (s0:List UInt8):(qmi n) (.exit 0) (frOf [(0,da s0)])=qgq n s0:=by
 kernel_rfl
theorem qxr (n:Nat) (s0:List UInt8) (o0:Lab) (as1:List Bool):evFnP E_z93 n C_z93 R_z93 [db s0 o0,.adr (.arr 256 .bool) as1]=qtc n s0 as1:=by
 unfold qtc;rw [show qkt (qgq n) n=(fun s0 as1=>evLP E_z93 n (sub C_z93 [1,0,0,0]) (qmi n) (qpZ s0 as1)) from by
  funext s0 as1;refine Eq.trans ?_ (qsg (qmi n) n s0 as1).symm;rw [show (qjI (qmi n))=(qgq n) from by
   funext s0;exact qnO n s0]
  all_goals kernel_rfl]
 kernel_rfl
theorem qsh:qp G Tryd.prog 93 s_z93:=by
 refine sQ (E:=E_z93) (c:=C_z93) rfl (fun w S hg=>(qb (qjH w S hg) ql)) Tryd.func93 ?_;intro avs r h;unfold s_z93 at h;split at h
 ·obtain ⟨hp,rfl⟩:=yj h;obtain ⟨n,hn⟩:=qvY _ _ hp;exact ⟨n,_,(qxr n _ _ _).trans hn,.inl rfl⟩
 ·cases h
end
end Go.Av
