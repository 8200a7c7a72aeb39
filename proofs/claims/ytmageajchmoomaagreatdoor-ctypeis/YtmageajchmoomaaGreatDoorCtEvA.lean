import Derived.Test.YtmageajchmoomaaGreatDoorCtP
import Derived.Test.YtmageajchmoomaaGreatDoorCtD
import Derived.Test.YtmageajchmoomaaGreatDoorAvE
import Derived.Test.YtmageajchmoomaaGreatDoorProg
import Derived.KernelRfl
namespace Go.Av
set_option linter.unusedSimpArgs false
set_option linter.unusedVariables false
section
noncomputable section
open Go.Proofs
set_option maxRecDepth 100000
set_option linter.unusedVariables false
def tis:List (TypeId×TI):=[(2,⟨some (.int .i64),8,0⟩),
 (3,⟨some (.int .i64),8,0⟩),
 (4,⟨some .bool,1,0⟩),
 (5,⟨some .byte,1,0⟩),
 (6,⟨some .byte,1,0⟩),
 (7,⟨some (.pair (.int .i64) (.pair (.int .i64) (.pair .bool (.pair .byte .unit)))),24,0⟩),
 (8,⟨some (.pair (.int .i64) (.pair (.int .i64) (.pair .bool (.pair .byte .unit)))),24,0⟩),
 (9,⟨some .str,16,0⟩),
 (10,⟨some .str,16,0⟩),
 (11,⟨some .str,16,0⟩),
 (12,⟨some (.int .u64),8,0⟩),
 (13,⟨some (.pair .str (.pair (.int .u64) .unit)),24,0⟩),
 (14,⟨some (.pair .str (.pair (.int .u64) .unit)),24,0⟩),
 (21,⟨some (.int .i32),4,0⟩),
 (22,⟨some (.sl .byte),24,5⟩),
 (23,⟨some (.sl (.pair (.sl .byte) (.pair (.sl (.int .i32)) .unit))),24,41⟩),
 (24,⟨some (.pair (.sl .byte) (.pair (.sl .byte) (.pair (.sl (.pair (.sl .byte) (.pair (.sl (.int .i32)) .unit))) .unit))),72,0⟩),
 (25,⟨some (.pair (.sl .byte) (.pair (.sl .byte) (.pair (.sl (.pair (.sl .byte) (.pair (.sl (.int .i32)) .unit))) .unit))),72,0⟩),
 (31,⟨some (.sl (.pair (.sl .byte) (.pair (.sl (.int .i32)) .unit))),24,51⟩),
 (32,⟨some (.pair (.sl .byte) (.pair (.sl .byte) (.pair (.sl (.pair (.sl .byte) (.pair (.sl (.int .i32)) .unit))) .unit))),72,0⟩),
 (33,⟨some (.pair (.sl .byte) (.pair (.sl .byte) (.pair (.sl (.pair (.sl .byte) (.pair (.sl (.int .i32)) .unit))) .unit))),72,0⟩),
 (36,⟨some (.int .i64),8,0⟩),
 (39,⟨some (.sl (.int .i32)),24,21⟩),
 (40,⟨some (.pair (.sl .byte) (.pair (.sl (.int .i32)) .unit)),48,0⟩),
 (41,⟨some (.pair (.sl .byte) (.pair (.sl (.int .i32)) .unit)),48,0⟩),
 (51,⟨some (.pair (.sl .byte) (.pair (.sl (.int .i32)) .unit)),48,0⟩),
 (67,⟨some (.sl (.sl .byte)),24,22⟩),
 (76,⟨some (.sl (.pair (.sl .byte) (.pair (.int .i64) (.pair .bool (.pair (.sl .byte) .unit))))),24,97⟩),
 (91,⟨some (.pair (.int .i64) (.pair (.int .i64) (.pair .bool .unit))),24,0⟩),
 (92,⟨some (.pair (.int .i64) (.pair (.int .i64) (.pair .bool .unit))),24,0⟩),
 (96,⟨some (.pair (.sl .byte) (.pair (.int .i64) (.pair .bool (.pair (.sl .byte) .unit)))),64,0⟩),
 (97,⟨some (.pair (.sl .byte) (.pair (.int .i64) (.pair .bool (.pair (.sl .byte) .unit)))),64,0⟩),
 (98,⟨some (.sl (.int .i64)),24,3⟩),
 (104,⟨some (.sl .str),24,9⟩),
 (136,⟨some (.int .u64),8,0⟩),
 (147,⟨some (.arr 256 .bool),256,4⟩),
 (148,⟨some (.arr 256 .bool),256,4⟩),
 (155,⟨some (.int .u32),4,0⟩),
 (157,⟨some (.int .u64),8,0⟩),
 (173,⟨some (.arr 32 .byte),32,5⟩),
 (174,⟨some (.arr 64 .byte),64,5⟩),
 (176,⟨some (.pair .byte (.pair (.int .i32) .unit)),8,0⟩),
 (177,⟨some (.pair .byte (.pair (.int .i32) .unit)),8,0⟩),
 (178,⟨some (.arr 8 (.pair .byte (.pair (.int .i32) .unit))),64,177⟩),
 (183,⟨some (.arr 32 (.int .i32)),128,21⟩),
 (184,⟨some (.arr 24 .byte),24,5⟩),
 (192,⟨some (.arr 256 .byte),256,5⟩),
 (193,⟨some (.pair .byte (.pair .byte .unit)),2,0⟩),
 (194,⟨some (.pair .byte (.pair .byte .unit)),2,0⟩),
 (195,⟨some (.arr 16 (.pair .byte (.pair .byte .unit))),32,194⟩),
 (197,⟨some (.arr 20 (.int .u64)),160,157⟩),
 (198,⟨some (.arr 65 .byte),65,5⟩),
 (208,⟨some .byte,1,0⟩),
 (209,⟨some .byte,1,0⟩),
 (212,⟨some (.int .i32),4,0⟩),
 (213,⟨some (.int .i32),4,0⟩)]
theorem qt:(tis.all fun p=>tyB Tryz.prog (tiOf tis) p.1)=true:=by kernel_rfl
theorem follows:Tryz.prog.follows .mixedOrders=true:=by kernel_rfl
abbrev nB:Bool×AV:=(false,.bad)
abbrev Sp:=List AV→Bool×AV
abbrev KT:=Ex→Fr→Option AV
abbrev FnL:=List (FuncId×(List AV→Bool×AV))
abbrev CutL:=Nat→Option (List Nat)
def eQ (l:FnL) (nt:Nat) (r:Option (List Nat)) (a b:CutL) (p:Nat→Option PSh):EnvP:=⟨⟨tiOf tis,fnsOf l,cnsOf [],[],nt,a,b,r⟩,p,fun _=>none,fun _=>[],fun _=>none,fun _=>none,fun _=>none,fun _=>none⟩
def cO (f:Func):Code:=f.body.getD .skip
def nC:CutL:=fun _=>none
def nP:Nat→Option PSh:=fun _=>none
theorem sQ {E:EnvP} {l:FnL} {nt:Nat} {r:Option (List Nat)} {a b:CutL} {p:Nat→Option PSh} {f:FuncId} {fn:Func} {c:Code} {spec:List AV→Bool×AV} (hE:E=eQ l nt r a b p) (hl:∀ w S,G w S→∀ f,qak Tryz.prog f (fnsOf l f) w S)
 (hf:Tryz.prog.funcs[f]? = some fn) (hspec:∀ avs r',spec avs=(true,r')→∃ n v,evFnP E n c fn.results avs=some v∧(v=r'∨v.strip=r')) (hb:fn.body=some c:=by kernel_rfl) (hnt:fn.ntmps=nt:=by kernel_rfl) (hname:(fn.name == "runtime.NumGoroutine")=false:=by kernel_rfl):qds G Tryz.prog f spec:=by
 subst hE;exact qfl G_stays (E:=eQ l nt r a b p) (qa rfl qt) (fun w S hg=>⟨⟨hl w S hg,fun f sp h=>qg f sp h w S⟩,qj w S hg,(fun _ _ h=>by cases h),(fun f sp h=>ql f sp h),(fun f it h=>qm f it h),(fun t kt vt h=>qi t kt vt h)⟩) follows hf hb hnt hname hspec
theorem sZ (l:FnL) (nt:Nat) (r:Option (List Nat)) (a b:CutL) (p:Nat→Option PSh) {f:FuncId} {fn:Func} {spec:List AV→Bool×AV} (hl:∀ w S,G w S→∀ f,qak Tryz.prog f (fnsOf l f) w S)
 (hf:Tryz.prog.funcs[f]? = some fn) (hspec:∀ avs r',spec avs=(true,r')→∃ n v,evFnP (eQ l nt r a b p) n (cO fn) fn.results avs=some v∧(v=r'∨v.strip=r')) (hb:fn.body=some (cO fn):=by kernel_rfl) (hnt:fn.ntmps=nt:=by kernel_rfl) (hname:(fn.name == "runtime.NumGoroutine")=false:=by kernel_rfl):qds G Tryz.prog f spec :=
 sQ (E:=eQ l nt r a b p) (c:=cO fn) rfl hl hf hspec hb hnt hname
theorem eX {E:EnvP} {c:Code} {rs:Array ResultVar} {av:List AV} {r:AV} {g:Nat→Option AV} (hm:∃ n,g n=some r) (hv:∀ n,evFnP E n c rs av=g n:=by intro _; kernel_rfl):∃ n v,evFnP E n c rs av=some v∧(v=r∨v.strip=r):=by
 obtain ⟨n,hn⟩:=hm;exact ⟨n,_,(hv n).trans hn,.inl rfl⟩
theorem fC {f:FuncId} {sp:List AV→Bool×AV} {l:FnL} (h:qds G Tryz.prog f sp) (hl:∀ w S,G w S→∀ g,qak Tryz.prog g (fnsOf l g) w S):∀ w S,G w S→∀ g,qak Tryz.prog g (fnsOf ((f,sp) :: l) g) w S:=fun w S hg=>qd (h w S hg) (hl w S hg)
theorem fN:∀ w S,G w S→∀ g,qak Tryz.prog g (fnsOf [] g) w S:=fun _ _ _=>qh
theorem sY (l:FnL) (nt:Nat) (r:Option (List Nat)) {f:FuncId} {fn:Func} {spec:List AV→Bool×AV} (hl:∀ w S,G w S→∀ f,qak Tryz.prog f (fnsOf l f) w S)
 (hf:Tryz.prog.funcs[f]? = some fn) (hspec:∀ avs r',spec avs=(true,r')→∃ n v,evFnP (eQ l nt r nC nC nP) n (cO fn) fn.results avs=some v∧(v=r'∨v.strip=r')) (hb:fn.body=some (cO fn):=by kernel_rfl) (hnt:fn.ntmps=nt:=by kernel_rfl) (hname:(fn.name == "runtime.NumGoroutine")=false:=by kernel_rfl):qds G Tryz.prog f spec :=
 sZ l nt r nC nC nP hl hf hspec hb hnt hname
abbrev gG (f:FuncId) (s:List AV→Bool×AV):=qds G Tryz.prog f s
def s_z5:Sp
 | [.dat (.pair (.sl .byte) (.pair (.sl .byte) (.pair (.sl (.pair (.sl .byte) (.pair (.sl (.int .i32)) .unit))) .unit))) a0 _]=>(true,(.dat .bool (z5 a0) none))
 | _=>nB
def s_z30:Sp
 | [.dat .byte a0 _]=>(true,(.dat .byte (z30 a0) none))
 | _=>nB
def s_z18:Sp
 | [da a0 _,.dat .str a1 _]=>(qgE a0 a1,(.dat .bool (z18 a0 a1) none))
 | _=>nB
def s_z9:Sp
 | [.dat (.pair (.sl .byte) (.pair (.sl .byte) (.pair (.sl (.pair (.sl .byte) (.pair (.sl (.int .i32)) .unit))) .unit))) a0 _,.dat .str a1 _,.dat .str a2 _]=>(z9_ok a0 a1 a2,(.dat .bool (z9 a0 a1 a2) none))
 | _=>nB
def s_z162:Sp
 | [.dat .str a0 _,.dat .byte a1 _]=>(true,(.dat (.int .i64) (z162 a0 a1) none))
 | _=>nB
def s_z20:Sp
 | [da a0 _]=>(qop a0,(da (z20 a0) (some (0,5))))
 | _=>nB
def s_z37:Sp
 | [da a0 _]=>(qio a0,(da (z37 a0) (some (2,5))))
 | _=>nB
def s_z60:Sp
 | [da a0 _,da a1 _]=>(true,(.dat .bool (z60 a0 a1) none))
 | _=>nB
def s_z42:Sp
 | [da a0 _,da a1 _]=>(qkK a0 a1,(.dat .bool (z42 a0 a1) none))
 | _=>nB
def s_z56:Sp
 | [.dat (.sl (.pair (.sl .byte) (.pair (.int .i64) (.pair .bool (.pair (.sl .byte) .unit))))) a0 _,da a1 _]=>(qoq a0 a1,(.dat (.sl (.int .i64)) (z56 a0 a1) none))
 | _=>nB
def s_z61:Sp
 | [.dat (.int .i64) a0 _]=>(true,(.dat (.sl .str) (z61 a0) (some (2,9))))
 | _=>nB
def s_z44:Sp
 | []=>(true,(.abs (.sl (.pair .str (.int .i64))) (qgs .str (.int .i64)) z44))
 | _=>nB
def s_z90:Sp
 | [da a0 _,.dat .byte a1 _]=>(true,(.dat (.int .i64) (z90 a0 a1) none))
 | _=>nB
def s_z62:Sp
 | [da a0 _,.dat .byte a1 _]=>(true,(.dat (.int .i64) (z62 a0 a1) none))
 | _=>nB
def s_z125:Sp
 | [da a0 _,.dat .str a1 _]=>(qqW a0 a1,(da (z125 a0 a1) none))
 | _=>nB
def s_z126:Sp
 | [da a0 _,.dat .str a1 _]=>(qqX a0 a1,(da (z126 a0 a1) none))
 | _=>nB
def s_z143:Sp
 | [da a0 _,da a1 _]=>(qkJ a0 a1,(.dat (.int .i64) (z143 a0 a1) none))
 | _=>nB
def s_z82:Sp
 | [da a0 _]=>(qsr a0,(da (z82 a0) (some (0,5))))
 | _=>nB
def s_z43:Sp
 | [.dat (.sl (.int .i32)) a0 _]=>(qsq a0,(.dat (.sl (.int .i32)) (z43 a0) none))
 | _=>nB
def s_z6:Sp
 | []=>(true,(dc z6))
 | _=>nB
def s_z7:Sp
 | [da a0 _,da a1 _]=>(z7_ok a0 a1,(.dat .bool (z7 a0 a1) none))
 | _=>nB
def s_z17:Sp
 | [.dat .byte a0 _]=>(true,(.dat .byte (z17 a0) none))
 | _=>nB
def s_z8:Sp
 | [da a0 _]=>(z8_ok a0,(da (z8 a0) (some (2,5))))
 | _=>nB
def s_z10:Sp
 | [.dat (.pair (.sl .byte) (.pair (.sl .byte) (.pair (.sl (.pair (.sl .byte) (.pair (.sl (.int .i32)) .unit))) .unit))) a0 _]=>(qim a0,(.dat (.pair (.sl .byte) (.pair (.sl .byte) (.pair (.sl (.pair (.sl .byte) (.pair (.sl (.int .i32)) .unit))) .unit))) (z10 a0) none))
 | _=>nB
def s_z3:Sp
 | [.dat (.pair (.sl .byte) (.pair (.sl .byte) (.pair (.sl (.pair (.sl .byte) (.pair (.sl (.int .i32)) .unit))) .unit))) a0 _,.dat .str a1 _,.dat .str a2 _]=>(true,(.dat .bool (z3 a0 a1 a2) none))
 | _=>nB
theorem qjJ:gG 162 s_z162:=fun w S hg vals avs r h hS ha=>by
 unfold s_z162 at h;split at h
 ·simp only [yb,true_and] at h;subst h;exact qip Tryz.func162 (by kernel_rfl) (by kernel_rfl) (by kernel_rfl) (by kernel_rfl) hS ha
 ·cases h
theorem qcp:gG 20 s_z20:=fun w S hg vals avs r h hS ha=>by
 unfold s_z20 at h;split at h
 ·obtain ⟨hp,rfl⟩:=yj h;exact qkN hS ha (qaV hp)
 ·cases h
theorem qlP:gG 82 s_z82:=fun w S hg vals avs r h hS ha=>by
 unfold s_z82 at h;split at h
 ·obtain ⟨hp,rfl⟩:=yj h;exact qkO hS ha (qaV hp)
 ·cases h
theorem qlQ:gG 43 s_z43:=fun w S hg vals avs r h hS ha=>by
 unfold s_z43 at h;split at h
 ·obtain ⟨hp,rfl⟩:=yj h;exact qkP hS ha (qaV hp)
 ·cases h
theorem qlR:gG 90 s_z90:=fun w S hg vals avs r h hS ha=>by
 unfold s_z90 at h;split at h
 ·simp only [yb,true_and] at h;subst h;exact qkM hS ha
 ·cases h
theorem qjK:gG 125 s_z125:=fun w S hg vals avs r h hS ha=>by
 unfold s_z125 at h;split at h
 ·simp only [yb] at h;cases h.1
 ·cases h
theorem qjL:gG 126 s_z126:=fun w S hg vals avs r h hS ha=>by
 unfold s_z126 at h;split at h
 ·simp only [yb] at h;cases h.1
 ·cases h
def E_z5:EnvP:=eQ [] 44 (some [2]) (fun x=>if x=2 then some [1,11,12,13] else none) (fun x=>if x=0 then some [1] else if x=1 then some [1,11,12,13] else none) nP
def C_z5:Code:=cO Tryz.f5
def R_z5:Array ResultVar:=Tryz.f5.results
noncomputable def qnU (K:KT):=fun t1=>K (.exit 0) (frOf [(1,(.adr (.pair (.sl .byte) (.pair (.sl .byte) (.pair (.sl (.pair (.sl .byte) (.pair (.sl (.int .i32)) .unit))) .unit))) t1))])
noncomputable def qnV (K:KT):=fun s2=>K .ret (frOf [(2,dc s2)])
def qry (n:Nat):KT:=qbd 0 (E_z5.cutb 0) (kSeq (evCP E_z5 (evLP E_z5 n) (sub C_z5 [1,1])) (kFnP E_z5 R_z5))
def qrz (t1:(List UInt8)×((List UInt8)×((List ((List UInt8)×((List Int)×Unit)))×Unit))) (s11:List ((List UInt8)×((List Int)×Unit))) (s12:Int) (s13:Int):Fr:=frOf [(1,(.adr (.pair (.sl .byte) (.pair (.sl .byte) (.pair (.sl (.pair (.sl .byte) (.pair (.sl (.int .i32)) .unit))) .unit))) t1)),(11,(.dat (.sl (.pair (.sl .byte) (.pair (.sl (.int .i32)) .unit))) s11 none)),(12,db s12),(13,db s13)]
theorem qnW (K:KT) (n:Nat):(fun t1 s11 s12 s13=>evLP E_z5 n (sub C_z5 [1,0,1,0,0]) K (qrz t1 s11 s12 s13))=z5_l2 (qnV K) (qnU K) n:=by
 induction n
 kernel_rfl;rename_i n ih;show _=qeq (qnV K) (qnU K) (z5_l2 (qnV K) (qnU K) n) n;rw [← ih];kernel_rfl
theorem z5_ev (n:Nat) (t0:(List UInt8)×((List UInt8)×((List ((List UInt8)×((List Int)×Unit)))×Unit))) (o0:Lab):evFnP E_z5 n C_z5 R_z5 [.dat (.pair (.sl .byte) (.pair (.sl .byte) (.pair (.sl (.pair (.sl .byte) (.pair (.sl (.int .i32)) .unit))) .unit))) t0 o0]=z5_sh n t0:=by
 unfold z5_sh qcM;rw [(Eq.trans (by kernel_rfl) (qnW (qry n) n).symm:z5_l2 qcL (qbF n) n=_)];kernel_rfl
theorem qnX:gG 5 s_z5:=sQ (E:=E_z5) (c:=C_z5) rfl fN Tryz.func5 fun avs r h=>by
 unfold s_z5 at h;split at h <;> cases h
 exact eX (qqM _) fun n=>z5_ev n _ _
theorem qeZ:gG 30 s_z30:=sY [] 12 (some [2]) fN Tryz.func30 fun avs r h=>by
 unfold s_z30 at h;split at h <;> cases h
 exact eX (qoj _)
def E_z18:EnvP:=eQ [(30,s_z30)] 39 (some [4]) (fun x=>if x=3 then some [0,5,9] else none) (fun x=>if x=0 then some [0,5] else if x=1 then some [0,5,9] else none) nP
def C_z18:Code:=cO Tryz.f18
def R_z18:Array ResultVar:=Tryz.f18.results
noncomputable def qjM (K:KT):=fun s0 n5=>K (.exit 0) (frOf [(0,(da s0 none)),(5,db n5)])
noncomputable def qjN (K:KT):=fun s4=>K .ret (frOf [(4,dc s4)])
def qpi (n:Nat):KT:=qbd 0 (E_z18.cutb 0) (kSeq (evCP E_z18 (evLP E_z18 n) (sub C_z18 [1,1,1])) (kFnP E_z18 R_z18))
def qpj (s0:List UInt8) (n5:Int) (s9:List UInt8) (s9p:Nat):Fr:=frOf [(0,(da s0 none)),(5,db n5),(9,(.itr s9 s9p))]
theorem qlS (K:KT) (n:Nat):(fun s0 n5 s9 s9p=>evLP E_z18 n (sub C_z18 [1,1,0,1,0,0]) K (qpj s0 n5 s9 s9p))=qfY (qjN K) (qjM K) n:=by
 induction n
 kernel_rfl;rename_i n ih;show _=qcN (qjN K) (qjM K) (qfY (qjN K) (qjM K) n) n;rw [← ih];kernel_rfl
theorem qrA (n:Nat) (s0:List UInt8) (o0:Lab) (text1:List UInt8) (o1:Lab):evFnP E_z18 n C_z18 R_z18 [da s0 o0,.dat .str text1 o1]=qod n s0 text1:=by
 unfold qod;rw [(Eq.trans (by kernel_rfl) (qlS (qpi n) n).symm:qfY qbG (qbu n) n=_)];kernel_rfl
theorem qlT:gG 18 s_z18:=sQ (E:=E_z18) (c:=C_z18) rfl (fC qeZ fN) Tryz.func18 fun avs r h=>by
 unfold s_z18 at h;split at h
 ·obtain ⟨hp,rfl⟩:=yj h;exact eX (qoa _ _ hp) fun n=>qrA n _ _ _ _
 ·cases h
theorem qjO:gG 9 s_z9:=sY [(18,s_z18)] 17 (some [6]) (fC qlT fN) Tryz.func9 fun avs r h=>by
 unfold s_z9 at h;split at h
 ·obtain ⟨hp,rfl⟩:=yj h;exact eX (qqL _ _ _ hp)
 ·cases h
def E_z33:EnvP:=eQ [] 10 (some [4]) nC nC nP
def C_z33:Code:=cO Tryz.f33
def R_z33:Array ResultVar:=Tryz.f33.results
def s_z33:Sp:=byE E_z33 C_z33 R_z33
theorem qdo:gG 33 s_z33:=by
 refine qc G_stays (E:=E_z33) (fn:=Tryz.f33) (c:=C_z33) (qa rfl qt) (fun w S hg=>⟨⟨qh,fun f sp h=>qg f sp h w S⟩,qj w S hg,(fun _ _ h=>by cases h),(fun f sp h=>ql f sp h),(fun f it h=>qm f it h),(fun t kt vt h=>qi t kt vt h)⟩) follows Tryz.func33 (by kernel_rfl) (by kernel_rfl) (by kernel_rfl) fun _ _ h=>qe h
def E_z54:EnvP:=eQ [] 56 (some [4,56]) nC (fun x=>if x=0 then some [56] else none) nP
def C_z54:Code:=cO Tryz.f54
def R_z54:Array ResultVar:=Tryz.f54.results
def s_z54:Sp:=byM E_z54 C_z54 R_z54
theorem qlU:qfC G Tryz.prog 54 s_z54:=by
 refine qaa G_stays (E:=E_z54) (fn:=Tryz.f54) (c:=C_z54) (qa rfl qt) (fun w S hg=>⟨⟨qh,fun f sp h=>qg f sp h w S⟩,qj w S hg,(fun _ _ h=>by cases h),(fun f sp h=>ql f sp h),(fun f it h=>qm f it h),(fun t kt vt h=>qi t kt vt h)⟩) follows Tryz.func54 (by kernel_rfl) (by kernel_rfl) (by kernel_rfl) fun _ _ h=>qbI h
def E_z34:EnvP:=⟨⟨tiOf tis,fnsOf [],cnsOf [],[],35,(fun x=>if x=4 then some [0,4,5,12,13,14] else none),(fun x=>if x=0 then some [0,4] else if x=1 then some [0,4,5,12,13,14] else none),some [2,3]⟩,(fun x=>if x=8 then some (.ppair (.leaf (.int .i64)) (.ppair (.leaf (.int .i64)) (.ppair (.leaf .bool) (.leaf .unit)))) else if x=9 then some (.ppair (.leaf (.int .i64)) (.ppair (.leaf (.int .i64)) (.ppair (.leaf .bool) (.leaf .unit)))) else none),fun _=>none,fun _=>[],(fun x=>if x=54 then some s_z54 else none),fun _=>none,fun _=>none,fun _=>none⟩
def C_z34:Code:=cO Tryz.f34
def R_z34:Array ResultVar:=Tryz.f34.results
def s_z34:Sp:=byE E_z34 C_z34 R_z34
theorem qlV:gG 34 s_z34:=by
 refine qc G_stays (E:=E_z34) (fn:=Tryz.f34) (c:=C_z34) (qa rfl qt) (fun w S hg=>⟨⟨qh,fun f sp h=>qg f sp h w S⟩,qj w S hg,(fun f sp h=>(qbJ (qlU w S hg) qdt) f sp h),(fun f sp h=>ql f sp h),(fun f it h=>qm f it h),(fun t kt vt h=>qi t kt vt h)⟩) follows Tryz.func34 (by kernel_rfl) (by kernel_rfl) (by kernel_rfl) fun _ _ h=>qe h
def E_z78:EnvP:=eQ [] 46 (some [2]) nC (fun x=>if x=0 then some [3] else none) nP
def C_z78:Code:=cO Tryz.f78
def R_z78:Array ResultVar:=Tryz.f78.results
def s_z78:Sp:=byE E_z78 C_z78 R_z78
theorem qlW:gG 78 s_z78:=by
 refine qc G_stays (E:=E_z78) (fn:=Tryz.f78) (c:=C_z78) (qa rfl qt) (fun w S hg=>⟨⟨qh,fun f sp h=>qg f sp h w S⟩,qj w S hg,(fun _ _ h=>by cases h),(fun f sp h=>ql f sp h),(fun f it h=>qm f it h),(fun t kt vt h=>qi t kt vt h)⟩) follows Tryz.func78 (by kernel_rfl) (by kernel_rfl) (by kernel_rfl) fun _ _ h=>qe h
def qpk:EnvP:=eQ [(162,s_z162)] 8 (some [4]) nC nC nP
def qpl:Code:=cO Tryz.f142
def qrB:Array ResultVar:=Tryz.f142.results
def s_z142:Sp:=byE qpk qpl qrB
theorem qjP:gG 142 s_z142:=by
 refine qc G_stays (E:=qpk) (fn:=Tryz.f142) (c:=qpl) (qa rfl qt) (fun w S hg=>⟨⟨(qd (qjJ w S hg) qh),fun f sp h=>qg f sp h w S⟩,qj w S hg,(fun _ _ h=>by cases h),(fun f sp h=>ql f sp h),(fun f it h=>qm f it h),(fun t kt vt h=>qi t kt vt h)⟩) follows Tryz.func142 (by kernel_rfl) (by kernel_rfl) (by kernel_rfl) fun _ _ h=>qe h
def qpm:EnvP:=eQ [(142,s_z142)] 8 (some [4]) nC nC nP
def qpn:Code:=cO Tryz.f108
def qrC:Array ResultVar:=Tryz.f108.results
def s_z108:Sp:=byE qpm qpn qrC
theorem qjQ:gG 108 s_z108:=by
 refine qc G_stays (E:=qpm) (fn:=Tryz.f108) (c:=qpn) (qa rfl qt) (fun w S hg=>⟨⟨(qd (qjP w S hg) qh),fun f sp h=>qg f sp h w S⟩,qj w S hg,(fun _ _ h=>by cases h),(fun f sp h=>ql f sp h),(fun f it h=>qm f it h),(fun t kt vt h=>qi t kt vt h)⟩) follows Tryz.func108 (by kernel_rfl) (by kernel_rfl) (by kernel_rfl) fun _ _ h=>qe h
def E_z79:EnvP:=eQ [(108,s_z108)] 9 (some [4]) nC nC nP
def C_z79:Code:=cO Tryz.f79
def R_z79:Array ResultVar:=Tryz.f79.results
def s_z79:Sp:=byE E_z79 C_z79 R_z79
theorem qlX:gG 79 s_z79:=by
 refine qc G_stays (E:=E_z79) (fn:=Tryz.f79) (c:=C_z79) (qa rfl qt) (fun w S hg=>⟨⟨(qd (qjQ w S hg) qh),fun f sp h=>qg f sp h w S⟩,qj w S hg,(fun _ _ h=>by cases h),(fun f sp h=>ql f sp h),(fun f it h=>qm f it h),(fun t kt vt h=>qi t kt vt h)⟩) follows Tryz.func79 (by kernel_rfl) (by kernel_rfl) (by kernel_rfl) fun _ _ h=>qe h
def E_z55:EnvP:=eQ [(78,s_z78),(79,s_z79)] 35 (some [2]) nC nC nP
def C_z55:Code:=cO Tryz.f55
def R_z55:Array ResultVar:=Tryz.f55.results
def s_z55:Sp:=byE E_z55 C_z55 R_z55
theorem qlY:gG 55 s_z55:=by
 refine qc G_stays (E:=E_z55) (fn:=Tryz.f55) (c:=C_z55) (qa rfl qt) (fun w S hg=>⟨⟨(qd (qlW w S hg) (qd (qlX w S hg) qh)),fun f sp h=>qg f sp h w S⟩,qj w S hg,(fun _ _ h=>by cases h),(fun f sp h=>ql f sp h),(fun f it h=>qm f it h),(fun t kt vt h=>qi t kt vt h)⟩) follows Tryz.func55 (by kernel_rfl) (by kernel_rfl) (by kernel_rfl) fun _ _ h=>qe h
def E_z35:EnvP:=eQ [(55,s_z55)] 10 (some [4]) nC nC nP
def C_z35:Code:=cO Tryz.f35
def R_z35:Array ResultVar:=Tryz.f35.results
def s_z35:Sp:=byE E_z35 C_z35 R_z35
theorem qdp:gG 35 s_z35:=by
 refine qc G_stays (E:=E_z35) (fn:=Tryz.f35) (c:=C_z35) (qa rfl qt) (fun w S hg=>⟨⟨(qd (qlY w S hg) qh),fun f sp h=>qg f sp h w S⟩,qj w S hg,(fun _ _ h=>by cases h),(fun f sp h=>ql f sp h),(fun f it h=>qm f it h),(fun t kt vt h=>qi t kt vt h)⟩) follows Tryz.func35 (by kernel_rfl) (by kernel_rfl) (by kernel_rfl) fun _ _ h=>qe h
def E_z22:EnvP:=eQ [(33,s_z33),(34,s_z34),(35,s_z35)] 43 (some [4]) (fun x=>if x=2 then some [0,1] else none) (fun x=>if x=0 then some [1] else if x=1 then some [0,1] else if x=2 then some [0,1] else none) nP
def C_z22:Code:=cO Tryz.f22
def R_z22:Array ResultVar:=Tryz.f22.results
def s_z22:Sp:=byE E_z22 C_z22 R_z22
theorem qbz:gG 22 s_z22:=by
 refine qc G_stays (E:=E_z22) (fn:=Tryz.f22) (c:=C_z22) (qa rfl qt) (fun w S hg=>⟨⟨(qd (qdo w S hg) (qd (qlV w S hg) (qd (qdp w S hg) qh))),fun f sp h=>qg f sp h w S⟩,qj w S hg,(fun _ _ h=>by cases h),(fun f sp h=>ql f sp h),(fun f it h=>qm f it h),(fun t kt vt h=>qi t kt vt h)⟩) follows Tryz.func22 (by kernel_rfl) (by kernel_rfl) (by kernel_rfl) fun _ _ h=>qe h
end
end
end Go.Av
