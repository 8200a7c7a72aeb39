import Derived.Test.YtnfehbljinflbaaGreatDoorRRRRErEvE
import Derived.Test.YtnfehbljinflbaaGreatDoorRRRREtN
import Derived.Test.YtnfehbljinflbaaGreatDoorRRRRProg
import Derived.KernelRfl
namespace Go.Av
set_option linter.unusedSimpArgs false
noncomputable section
open Go.Proofs
set_option maxRecDepth 100000
set_option linter.unusedVariables false
def qGU:EnvP:=eQ [(128,s_z128)] 11 (some [2]) nC nC nP
def qGV:Code:=cO Tryz.f100
def qJK:Array ResultVar:=Tryz.f100.results
theorem qGW (n:Nat) (s0:List UInt8) (o0:Lab):evFnP qGU n qGV qJK [db s0 o0]=qwv n s0:=by
 kernel_rfl
theorem quQ:qg G Tryz.prog 100 s_z100:=by
 refine sQ (E:=qGU) (c:=qGV) rfl (fun w S hg=>(qb (quP w S hg) qc)) Tryz.func100 ?_;intro avs r h;unfold s_z100 at h;split at h
 ·obtain ⟨hp,rfl⟩:=yj h;obtain ⟨n,hn⟩:=qAY _ hp;exact ⟨n,_,(qGW n _ _).trans hn,.inl rfl⟩
 ·cases h
def qGX:EnvP:=eQ [(51,s_z51)] 12 (some [2]) nC nC nP
def qGY:Code:=cO Tryz.f130
def qJL:Array ResultVar:=Tryz.f130.results
theorem qGZ (n:Nat) (s0:List UInt8) (o0:Lab):evFnP qGX n qGY qJL [db s0 o0]=qwx n s0:=by
 kernel_rfl
theorem quR:qg G Tryz.prog 130 s_z130:=by
 refine sQ (E:=qGX) (c:=qGY) rfl (fun w S hg=>(qb (qgj w S hg) qc)) Tryz.func130 ?_;intro avs r h;unfold s_z130 at h;split at h
 ·obtain ⟨hp,rfl⟩:=yj h;obtain ⟨n,hn⟩:=qAk _ hp;exact ⟨n,_,(qGZ n _ _).trans hn,.inl rfl⟩
 ·cases h
def qHa:EnvP:=eQ [(129,s_z129),(130,s_z130)] 16 (some [2]) nC (fun x=>if x=0 then some [] else none) nP
def qHb:Code:=cO Tryz.f101
def qJM:Array ResultVar:=Tryz.f101.results
theorem qHc (n:Nat) (run0:List UInt8) (o0:Lab):evFnP qHa n qHb qJM [db run0 o0]=qwy n run0:=by
 kernel_rfl
theorem quS:qg G Tryz.prog 101 s_z101:=by
 refine sQ (E:=qHa) (c:=qHb) rfl (fun w S hg=>(qb (qma w S hg) (qb (quR w S hg) qc))) Tryz.func101 ?_;intro avs r h;unfold s_z101 at h;split at h
 ·obtain ⟨hp,rfl⟩:=yj h;obtain ⟨n,hn⟩:=qAX _ hp;exact ⟨n,_,(qHc n _ _).trans hn,.inl rfl⟩
 ·cases h
def E_z59:EnvP:=eQ [(83,s_z83),(99,s_z99),(100,s_z100),(101,s_z101)] 29 (some [2]) (fun x=>if x=2 then some [0,3] else none) (fun x=>if x=0 then some [3] else if x=1 then some [0,3] else none) nP
def C_z59:Code:=cO Tryz.f59
def R_z59:Array ResultVar:=Tryz.f59.results
noncomputable def qmh (K:Ex→Fr→Option AV):=fun l3=>K (.exit 0) (frOf [(3,(.dat (.sl (.pair (.int .i64) (.pair (.sl .byte) .unit))) l3 (some (3,41))))])
def qpU (n:Nat):Ex→Fr→Option AV:=qo 0 (E_z59.cutb 0) (kSeq (evCP E_z59 (evLP E_z59 n) (sub C_z59 [1,1,1])) (kFnP E_z59 R_z59))
def quT (s0:List UInt8) (l3:List (Int×((List UInt8)×Unit))):Fr:=frOf [(0,da s0),(3,(.dat (.sl (.pair (.int .i64) (.pair (.sl .byte) .unit))) l3 (some (3,41))))]
theorem qzk (K:Ex→Fr→Option AV):∀ (n:Nat) (s0:List UInt8) (l3:List (Int×((List UInt8)×Unit))),evLP E_z59 n (sub C_z59 [1,1,0,0,0]) K (quT s0 l3)=qkW (qmh K) n s0 l3:=by
 intro n;induction n with
 | zero=>intros; rfl
 | succ n IH =>
 intro s0 l3;have ih:(fun s0 l3=>evLP E_z59 n (sub C_z59 [1,1,0,0,0]) K (quT s0 l3))=qkW (qmh K) n:=by
  funext s0 l3;exact IH s0 l3
 show _=qfq (qmh K) (qkW (qmh K) n) n s0 l3;rw [← ih];kernel_rfl
theorem qrR (n:Nat) (l3:List (Int×((List UInt8)×Unit))):(qpU n) (.exit 0) (frOf [(3,(.dat (.sl (.pair (.int .i64) (.pair (.sl .byte) .unit))) l3 (some (3,41))))])=qhM n l3:=by
 kernel_rfl
theorem qJN (n:Nat) (s0:List UInt8) (o0:Lab):evFnP E_z59 n C_z59 R_z59 [db s0 o0]=qzR n s0:=by
 unfold qzR;rw [show qkW (qhM n) n=(fun s0 l3=>evLP E_z59 n (sub C_z59 [1,1,0,0,0]) (qpU n) (quT s0 l3)) from by
  funext s0 l3;refine Eq.trans ?_ (qzk (qpU n) n s0 l3).symm;rw [show (qmh (qpU n))=(qhM n) from by
   funext l3;exact qrR n l3]
  all_goals kernel_rfl]
 kernel_rfl
theorem qzl:qg G Tryz.prog 59 s_z59:=by
 refine sQ (E:=E_z59) (c:=C_z59) rfl (fun w S hg=>(qb (qgi w S hg) (qb (qzi w S hg) (qb (quQ w S hg) (qb (quS w S hg) qc))))) Tryz.func59 ?_;intro avs r h;unfold s_z59 at h;split at h
 ·obtain ⟨hp,rfl⟩:=yj h;obtain ⟨n,hn⟩:=qEO _ hp;exact ⟨n,_,(qJN n _ _).trans hn,.inl rfl⟩
 ·cases h
def E_z60:EnvP:=eQ [] 51 (some [2]) (fun x=>if x=3 then some [0,3,9,10,11] else none) (fun x=>if x=0 then some [3] else if x=1 then some [0,3,9,10,11] else none) (fun x=>if x=8 then some (.psl 4 (.leaf .bool)) else none)
def C_z60:Code:=cO Tryz.f60
def R_z60:Array ResultVar:=Tryz.f60.results
noncomputable def qmi (K:Ex→Fr→Option AV):=fun out3=>K (.exit 0) (frOf [(3,(.pv (.psl 4 (.leaf .bool)) out3 none))])
def qpV (n:Nat):Ex→Fr→Option AV:=qo 0 (E_z60.cutb 0) (kSeq (evCP E_z60 (evLP E_z60 n) (sub C_z60 [1,1,1])) (kFnP E_z60 R_z60))
def quU (l0:List (Int×((List UInt8)×Unit))) (out3:List Bool) (s9:List (Int×((List UInt8)×Unit))) (s10:Int) (s11:Int):Fr:=frOf [(0,(.dat (.sl (.pair (.int .i64) (.pair (.sl .byte) .unit))) l0 none)),(3,(.pv (.psl 4 (.leaf .bool)) out3 none)),(9,(.dat (.sl (.pair (.int .i64) (.pair (.sl .byte) .unit))) s9 none)),(10,dc s10),(11,dc s11)]
theorem qzm (K:Ex→Fr→Option AV):∀ (n:Nat) (l0:List (Int×((List UInt8)×Unit))) (out3:List Bool) (s9:List (Int×((List UInt8)×Unit))) (s10:Int) (s11:Int),evLP E_z60 n (sub C_z60 [1,1,0,1,0,0]) K (quU l0 out3 s9 s10 s11)=qiu (qmi K) n l0 out3 s9 s10 s11:=by
 intro n;induction n with
 | zero=>intros; rfl
 | succ n IH =>
 intro l0 out3 s9 s10 s11;have ih:(fun l0 out3 s9 s10 s11=>evLP E_z60 n (sub C_z60 [1,1,0,1,0,0]) K (quU l0 out3 s9 s10 s11))=qiu (qmi K) n:=by
  funext l0 out3 s9 s10 s11;exact IH l0 out3 s9 s10 s11
 show _=qfr (qmi K) (qiu (qmi K) n) n l0 out3 s9 s10 s11;rw [← ih];kernel_rfl
theorem qrS (n:Nat) (out3:List Bool):(qpV n) (.exit 0) (frOf [(3,(.pv (.psl 4 (.leaf .bool)) out3 none))])=qhN n out3:=by
 kernel_rfl
theorem qJO (n:Nat) (l0:List (Int×((List UInt8)×Unit))) (o0:Lab):evFnP E_z60 n C_z60 R_z60 [.dat (.sl (.pair (.int .i64) (.pair (.sl .byte) .unit))) l0 o0]=qzS n l0:=by
 unfold qzS;rw [show qiu (qhN n) n=(fun l0 out3 s9 s10 s11=>evLP E_z60 n (sub C_z60 [1,1,0,1,0,0]) (qpV n) (quU l0 out3 s9 s10 s11)) from by
  funext l0 out3 s9 s10 s11;refine Eq.trans ?_ (qzm (qpV n) n l0 out3 s9 s10 s11).symm;rw [show (qmi (qpV n))=(qhN n) from by
   funext out3;exact qrS n out3]
  all_goals kernel_rfl]
 kernel_rfl
theorem qzn:qg G Tryz.prog 60 s_z60:=by
 refine sQ (E:=E_z60) (c:=C_z60) rfl (fun w S hg=>qc) Tryz.func60 ?_;intro avs r h;unfold s_z60 at h;split at h
 ·obtain ⟨hp,rfl⟩:=yj h;obtain ⟨n,hn⟩:=qEP _ hp;exact ⟨n,_,(qJO n _ _).trans hn,.inl rfl⟩
 ·cases h
def E_z37:EnvP:=eQ [(59,s_z59),(60,s_z60)] 28 (some [2]) (fun x=>if x=4 then some [3,4,10,11,12] else none) (fun x=>if x=0 then some [3] else if x=1 then some [3,4,10,11,12] else none) nP
def C_z37:Code:=cO Tryz.f37
def R_z37:Array ResultVar:=Tryz.f37.results
noncomputable def qmj (K:Ex→Fr→Option AV):=fun out3=>K (.exit 0) (frOf [(3,(.dat (.sl (.pair (.int .i64) (.pair (.sl .byte) .unit))) out3 (some (3,41))))])
def qpW (n:Nat):Ex→Fr→Option AV:=qo 0 (E_z37.cutb 0) (kSeq (evCP E_z37 (evLP E_z37 n) (sub C_z37 [1,1,1,1])) (kFnP E_z37 R_z37))
def quV (out3:List (Int×((List UInt8)×Unit))) (l4:List (Int×((List UInt8)×Unit))) (s10:List Bool) (s11:Int) (s12:Int):Fr:=frOf [(3,(.dat (.sl (.pair (.int .i64) (.pair (.sl .byte) .unit))) out3 (some (3,41)))),(4,(.dat (.sl (.pair (.int .i64) (.pair (.sl .byte) .unit))) l4 (some (4,41)))),(10,(.dat (.sl .bool) s10 (some (10,4)))),(11,dc s11),(12,dc s12)]
theorem qzo (K:Ex→Fr→Option AV):∀ (n:Nat) (out3:List (Int×((List UInt8)×Unit))) (l4:List (Int×((List UInt8)×Unit))) (s10:List Bool) (s11:Int) (s12:Int),evLP E_z37 n (sub C_z37 [1,1,1,0,1,0,0]) K (quV out3 l4 s10 s11 s12)=qkX (qmj K) n out3 l4 s10 s11 s12:=by
 intro n;induction n with
 | zero=>intros; rfl
 | succ n IH =>
 intro out3 l4 s10 s11 s12;have ih:(fun out3 l4 s10 s11 s12=>evLP E_z37 n (sub C_z37 [1,1,1,0,1,0,0]) K (quV out3 l4 s10 s11 s12))=qkX (qmj K) n:=by
  funext out3 l4 s10 s11 s12;exact IH out3 l4 s10 s11 s12
 show _=qfs (qmj K) (qkX (qmj K) n) n out3 l4 s10 s11 s12;rw [← ih];kernel_rfl
theorem qrT (n:Nat) (out3:List (Int×((List UInt8)×Unit))):(qpW n) (.exit 0) (frOf [(3,(.dat (.sl (.pair (.int .i64) (.pair (.sl .byte) .unit))) out3 (some (3,41))))])=qhO n out3:=by
 kernel_rfl
theorem qJP (n:Nat) (s0:List UInt8) (o0:Lab):evFnP E_z37 n C_z37 R_z37 [db s0 o0]=qzT n s0:=by
 unfold qzT;rw [show qkX (qhO n) n=(fun out3 l4 s10 s11 s12=>evLP E_z37 n (sub C_z37 [1,1,1,0,1,0,0]) (qpW n) (quV out3 l4 s10 s11 s12)) from by
  funext out3 l4 s10 s11 s12;refine Eq.trans ?_ (qzo (qpW n) n out3 l4 s10 s11 s12).symm;rw [show (qmj (qpW n))=(qhO n) from by
   funext out3;exact qrT n out3]
  all_goals kernel_rfl]
 kernel_rfl
theorem qzp:qg G Tryz.prog 37 s_z37:=by
 refine sQ (E:=E_z37) (c:=C_z37) rfl (fun w S hg=>(qb (qzl w S hg) (qb (qzn w S hg) qc))) Tryz.func37 ?_;intro avs r h;unfold s_z37 at h;split at h
 ·obtain ⟨hp,rfl⟩:=yj h;obtain ⟨n,hn⟩:=qEQ _ hp;exact ⟨n,_,(qJP n _ _).trans hn,.inl rfl⟩
 ·cases h
def E_z62:EnvP:=eQ [] 11 (some [13]) nC nC (fun x=>if x=7 then some (.osl 21 (.int .i32)) else if x=10 then some (.osl 21 (.int .i32)) else none)
def C_z62:Code:=cO Tryz.f62
def R_z62:Array ResultVar:=Tryz.f62.results
theorem qJQ (n:Nat) (c0:Int) (o0:Lab) (e1:Int) (o1:Lab) (x2:List Int):evFnM E_z62 n C_z62 R_z62 [di c0 o0,de e1 o1,.pbox (.osl 21 (.int .i32)) x2 none]=qDO n c0 e1 x2:=by
 kernel_rfl
theorem qzq:qfO G Tryz.prog 62 s_z62:=by
 refine qP G_stays (E:=E_z62) (fn:=Tryz.f62) (c:=C_z62) (qf rfl qaS) (fun w S hg=>⟨⟨qc,fun f sp h=>qZ f sp h w S⟩,qae w S hg,(fun _ _ h=>by cases h),(fun f sp h=>qat f sp h),(fun f it h=>qau f it h),(fun t kt vt h=>qaa t kt vt h)⟩) follows Tryz.func62 (by kernel_rfl) (by kernel_rfl) (by kernel_rfl) ?_;intro avs r h;unfold s_z62 at h;split at h
 ·obtain ⟨hp,rfl⟩:=yj h;obtain ⟨n,hn⟩:=qEF _ _ _ hp;exact ⟨n,(qJQ n _ _ _ _ _).trans hn⟩
 ·cases h
def qHd:EnvP:=eQ [] 19 (some [2]) nC (fun x=>if x=0 then some [] else none) nP
def qHe:Code:=cO Tryz.f132
def qJR:Array ResultVar:=Tryz.f132.results
theorem qHf (n:Nat) (c0:UInt8) (o0:Lab):evFnP qHd n qHe qJR [dm c0 o0]=qwA n c0:=by
 kernel_rfl
theorem qmk:qg G Tryz.prog 132 s_z132:=by
 refine sQ (E:=qHd) (c:=qHe) rfl (fun w S hg=>qc) Tryz.func132 ?_;intro avs r h;unfold s_z132 at h;split at h <;> cases h
 obtain ⟨n,hn⟩:=qAN _;exact ⟨n,_,(qHf n _ _).trans hn,.inl rfl⟩
def qHg:EnvP:=eQ [] 6 (some [2]) nC nC nP
def qHh:Code:=cO Tryz.f159
def qJS:Array ResultVar:=Tryz.f159.results
theorem qHi (n:Nat) (c0:UInt8) (o0:Lab):evFnP qHg n qHh qJS [dm c0 o0]=qwC n c0:=by
 kernel_rfl
theorem qml:qg G Tryz.prog 159 s_z159:=by
 refine sQ (E:=qHg) (c:=qHh) rfl (fun w S hg=>qc) Tryz.func159 ?_;intro avs r h;unfold s_z159 at h;split at h <;> cases h
 obtain ⟨n,hn⟩:=qAO _;exact ⟨n,_,(qHi n _ _).trans hn,.inl rfl⟩
def qHj:EnvP:=eQ [(159,s_z159)] 40 (some [4]) nC (fun x=>if x=0 then some [1] else none) nP
def qHk:Code:=cO Tryz.f160
def qJT:Array ResultVar:=Tryz.f160.results
theorem qHl (n:Nat) (first0:UInt8) (o0:Lab) (c1:UInt8) (o1:Lab):evFnP qHj n qHk qJT [dm first0 o0,dm c1 o1]=qwD n first0 c1:=by
 kernel_rfl
theorem quW:qg G Tryz.prog 160 s_z160:=by
 refine sQ (E:=qHj) (c:=qHk) rfl (fun w S hg=>(qb (qml w S hg) qc)) Tryz.func160 ?_;intro avs r h;unfold s_z160 at h;split at h <;> cases h
 obtain ⟨n,hn⟩:=qAP _ _;exact ⟨n,_,(qHl n _ _ _ _).trans hn,.inl rfl⟩
def qkp:EnvP:=eQ [(132,s_z132),(159,s_z159),(160,s_z160)] 45 (some [2]) (fun x=>if x=2 then some [0,3] else none) (fun x=>if x=0 then some [0,3] else if x=1 then some [0,3] else none) nP
def qrU:Code:=cO Tryz.f131
def qHm:Array ResultVar:=Tryz.f131.results
def qhs (s0:List UInt8) (n3:Int):Fr:=frOf [(0,da s0),(3,dc n3)]
noncomputable def qht (K:Ex→Fr→Option AV):=fun s0 n3=>K (.exit 0) (qhs s0 n3)
noncomputable def qkq (K:Ex→Fr→Option AV):=fun s2=>K .ret (frOf [(2,dc s2)])
def qkr (n:Nat):Ex→Fr→Option AV:=qo 0 (qkp.cutb 0) (kSeq (evCP qkp (evLP qkp n) (sub qrU [1,1,1])) (kFnP qkp qHm))
theorem quX (K:Ex→Fr→Option AV):∀ (n:Nat) (s0:List UInt8) (n3:Int),evLP qkp n (sub qrU [1,1,0,0,0]) K (qhs s0 n3)=qfE (qkq K) (qht K) n s0 n3:=by
 intro n;induction n with
 | zero=>intros; rfl
 | succ n IH =>
 intro s0 n3;have ih:(fun s0 n3=>evLP qkp n (sub qrU [1,1,0,0,0]) K (qhs s0 n3))=qfE (qkq K) (qht K) n:=by
  funext s0 n3;exact IH s0 n3
 show _=qbG (qkq K) (qht K) (qfE (qkq K) (qht K) n) n s0 n3;rw [← ih];kernel_rfl
theorem qnQ (n:Nat) (s0:List UInt8) (n3:Int):(qkr n) (.exit 0) (qhs s0 n3)=qah n s0 n3:=by
 kernel_rfl
theorem qHn (n:Nat) (s0:List UInt8) (o0:Lab):evFnP qkp n qrU qHm [db s0 o0]=qqs n s0:=by
 unfold qqs;rw [show qfE qaH (qah n) n=(fun s0 n3=>evLP qkp n (sub qrU [1,1,0,0,0]) (qkr n) (qhs s0 n3)) from by
  funext s0 n3;refine Eq.trans ?_ (quX (qkr n) n s0 n3).symm;rw [show (qht (qkr n))=(qah n) from by
   funext s0 n3;exact qnQ n s0 n3]
  all_goals kernel_rfl]
 kernel_rfl
theorem quY:qg G Tryz.prog 131 s_z131:=by
 refine sQ (E:=qkp) (c:=qrU) rfl (fun w S hg=>(qb (qmk w S hg) (qb (qml w S hg) (qb (quW w S hg) qc)))) Tryz.func131 ?_;intro avs r h;unfold s_z131 at h;split at h
 ·obtain ⟨hp,rfl⟩:=yj h;obtain ⟨n,hn⟩:=qAQ _ hp;exact ⟨n,_,(qHn n _ _).trans hn,.inl rfl⟩
 ·cases h
end
end Go.Av
