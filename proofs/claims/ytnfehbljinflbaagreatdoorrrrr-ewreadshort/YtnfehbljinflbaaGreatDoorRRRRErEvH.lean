import Derived.Test.YtnfehbljinflbaaGreatDoorRRRRErEvG
import Derived.Test.YtnfehbljinflbaaGreatDoorRRRREtN
import Derived.Test.YtnfehbljinflbaaGreatDoorRRRRProg
import Derived.KernelRfl
namespace Go.Av
set_option linter.unusedSimpArgs false
noncomputable section
open Go.Proofs
set_option maxRecDepth 100000
set_option linter.unusedVariables false
def qHH:EnvP:=⟨⟨tiOf tis,fnsOf [],cnsOf [],[],4,(fun _=>none),(fun _=>none),some [0]⟩,fun _=>none,fun _=>none,(fun x=>if x=500002 then [1] else []),fun _=>none,fun _=>none,fun _=>none,fun _=>none⟩
def qHI:Code:=cO Tryz.f162
def qJY:Array ResultVar:=Tryz.f162.results
theorem qHJ (n:Nat)  : evFnP qHH n qHI qJY []=qBL n  := by
 kernel_rfl
theorem qvm:qg G Tryz.prog 162 s_z162:=by
 refine qB G_stays (E:=qHH) (fn:=Tryz.f162) (c:=qHI) (qf rfl qaS) (fun w S hg=>⟨⟨qc,fun f sp h=>qZ f sp h w S⟩,qae w S hg,(fun _ _ h=>by cases h),(fun f sp h=>qat f sp h),(fun f it h=>qau f it h),(fun t kt vt h=>qaa t kt vt h)⟩) follows Tryz.func162 (by kernel_rfl) (by kernel_rfl) (by kernel_rfl) ?_;intro avs r h;unfold s_z162 at h;split at h <;> cases h
 obtain ⟨n,hn⟩:=qAs;exact ⟨n,_,(qHJ n ).trans hn,.inl rfl⟩
def qHK:EnvP:=eQ [(162,s_z162)] 20 (some [2]) nC nC nP
def qHL:Code:=cO Tryz.f136
def qJZ:Array ResultVar:=Tryz.f136.results
theorem qHM (n:Nat) (x0:UInt8) (o0:Lab):evFnP qHK n qHL qJZ [dm x0 o0]=qwJ n x0:=by
 kernel_rfl
theorem qvn:qg G Tryz.prog 136 s_z136:=by
 refine sQ (E:=qHK) (c:=qHL) rfl (fun w S hg=>(qb (qvm w S hg) qc)) Tryz.func136 ?_;intro avs r h;unfold s_z136 at h;split at h <;> cases h
 obtain ⟨n,hn⟩:=qAz _;exact ⟨n,_,(qHM n _ _).trans hn,.inl rfl⟩
def qkE:EnvP:=eQ [(136,s_z136)] 22 (some [2]) (fun x=>if x=3 then some [3,9,10,11] else none) (fun x=>if x=0 then some [3] else if x=1 then some [3,9,10,11] else none) nP
def qsb:Code:=cO Tryz.f105
def qHN:Array ResultVar:=Tryz.f105.results
noncomputable def qhy (K:Ex→Fr→Option AV):=fun t3=>K (.exit 0) (frOf [(3,(.dat (.sl (.int .i32)) t3 (some (3,21))))])
def qkF (n:Nat):Ex→Fr→Option AV:=qo 0 (qkE.cutb 0) (kSeq (evCP qkE (evLP qkE n) (sub qsb [1,1,1])) (kFnP qkE qHN))
def qob (t3:List Int) (s9:List UInt8) (s10:Int) (s11:Int):Fr:=frOf [(3,(.dat (.sl (.int .i32)) t3 (some (3,21)))),(9,da s9),(10,dc s10),(11,dc s11)]
theorem qvo (K:Ex→Fr→Option AV):∀ (n:Nat) (t3:List Int) (s9:List UInt8) (s10:Int) (s11:Int),evLP qkE n (sub qsb [1,1,0,1,0,0]) K (qob t3 s9 s10 s11)=qhU (qhy K) n t3 s9 s10 s11:=by
 intro n;induction n with
 | zero=>intros; rfl
 | succ n IH =>
 intro t3 s9 s10 s11;have ih:(fun t3 s9 s10 s11=>evLP qkE n (sub qsb [1,1,0,1,0,0]) K (qob t3 s9 s10 s11))=qhU (qhy K) n:=by
  funext t3 s9 s10 s11;exact IH t3 s9 s10 s11
 show _=qdB (qhy K) (qhU (qhy K) n) n t3 s9 s10 s11;rw [← ih];kernel_rfl
theorem qoc (n:Nat) (t3:List Int):(qkF n) (.exit 0) (frOf [(3,(.dat (.sl (.int .i32)) t3 (some (3,21))))])=qdC n t3:=by
 kernel_rfl
theorem qHO (n:Nat) (s0:List UInt8) (o0:Lab):evFnP qkE n qsb qHN [db s0 o0]=qqz n s0:=by
 unfold qqz;rw [show qhU (qdC n) n=(fun t3 s9 s10 s11=>evLP qkE n (sub qsb [1,1,0,1,0,0]) (qkF n) (qob t3 s9 s10 s11)) from by
  funext t3 s9 s10 s11;refine Eq.trans ?_ (qvo (qkF n) n t3 s9 s10 s11).symm;rw [show (qhy (qkF n))=(qdC n) from by
   funext t3;exact qoc n t3]
  all_goals kernel_rfl]
 kernel_rfl
theorem qvp:qg G Tryz.prog 105 s_z105:=by
 refine sQ (E:=qkE) (c:=qsb) rfl (fun w S hg=>(qb (qvn w S hg) qc)) Tryz.func105 ?_;intro avs r h;unfold s_z105 at h;split at h
 ·obtain ⟨hp,rfl⟩:=yj h;obtain ⟨n,hn⟩:=qAA _ hp;exact ⟨n,_,(qHO n _ _).trans hn,.inl rfl⟩
 ·cases h
def E_z63:EnvP:=eQ [(38,s_z38),(103,s_z103),(104,s_z104),(105,s_z105),(106,s_z106)] 24 (some [1000004]) nC (fun x=>if x=0 then some [1] else none) nP
def C_z63:Code:=cO Tryz.f63
def R_z63:Array ResultVar:=Tryz.f63.results
theorem qKa (n:Nat) (charset0:Int) (o0:Lab) (s1:List UInt8) (o1:Lab):evFnP E_z63 n C_z63 R_z63 [de charset0 o0,db s1 o1]=qDQ n charset0 s1:=by
 kernel_rfl
theorem qzt:qg G Tryz.prog 63 s_z63:=by
 refine sQ (E:=E_z63) (c:=C_z63) rfl (fun w S hg=>(qb (qpY w S hg) (qb (qvg w S hg) (qb (qvl w S hg) (qb (qvp w S hg) (qb (qmo w S hg) qc)))))) Tryz.func63 ?_;intro avs r h;unfold s_z63 at h;split at h
 ·obtain ⟨hp,rfl⟩:=yj h;obtain ⟨n,hn⟩:=qEr _ _ hp;exact ⟨n,_,(qKa n _ _ _ _).trans hn,.inl rfl⟩
 ·cases h
def qod:EnvP:=eQ [(121,s_z121)] 28 (some [28,29]) (fun x=>if x=1 then some [0,7,8,9,28,29] else none) (fun x=>if x=0 then some [28,29] else if x=1 then some [0,7,8,9,28,29] else none) nP
def qvq:Code:=cO Tryz.f173
def qHP:Array ResultVar:=Tryz.f173.results
def qkG (V:Sigma Inv) (x0:Den V.1) (x1:List UInt8):Ex→Fr→Option AV:=qo 0 (qod.cutb 0) (kFnM qod qHP [.abs V.1 V.2 x0,.pbox (.leaf (.sl .byte)) x1 none])
def qoe (s7:List UInt8) (s8:Int) (s9:Int) (V:Sigma Inv) (xv:Den V.1) (s29:List UInt8):Fr:=frOf [(0,(.padr 28 [])),(7,da s7),(8,dc s8),(9,dc s9),(28,(.abs V.1 V.2 xv)),(29,(.pbox (.leaf (.sl .byte)) s29 none))]
def qbN (V:Sigma Inv) (xv:Den V.1) (s29:List UInt8):Fr:=frOf [(28,(.abs V.1 V.2 xv)),(29,(.pbox (.leaf (.sl .byte)) s29 none))]
theorem qvr (V:Sigma Inv) (K:Ex→Fr→Option AV):∀ (n:Nat) (s7:List UInt8) (s8:Int) (s9:Int) (xv:Den V.1) (s29:List UInt8),evLP qod n (sub qvq [1,0,0]) K (qoe s7 s8 s9 V xv s29)=(qeP V) (fun xv s29=>K .ret (qbN V xv s29)) (fun xv s29=>K (.exit 0) (qbN V xv s29)) n s7 s8 s9 xv s29:=by
 intro n;induction n with
 | zero=>intros; rfl
 | succ n IH =>
 intro s7 s8 s9 xv s29;have ih:(fun s7 s8 s9 xv s29=>evLP qod n (sub qvq [1,0,0]) K (qoe s7 s8 s9 V xv s29))=(qeP V) (fun xv s29=>K .ret (qbN V xv s29)) (fun xv s29=>K (.exit 0) (qbN V xv s29)) n:=by
  funext s7 s8 s9 xv s29;exact IH s7 s8 s9 xv s29
 show _=(qdD V) (fun xv s29=>K .ret (qbN V xv s29)) (fun xv s29=>K (.exit 0) (qbN V xv s29)) ((qeP V) (fun xv s29=>K .ret (qbN V xv s29)) (fun xv s29=>K (.exit 0) (qbN V xv s29)) n) n s7 s8 s9 xv s29;rw [← ih];kernel_rfl
theorem qof (V:Sigma Inv) (x0:Den V.1) (x1:List UInt8) (n:Nat) (xv:Den V.1) (s29:List UInt8):(qkG V x0 x1) (.exit 0) (qbN V xv s29)=(qcw V) n xv s29:=by
 kernel_rfl
theorem qHQ (V:Sigma Inv) (n:Nat) (x0:Den V.1) (x1:List UInt8):evFnM qod n qvq qHP [.abs V.1 V.2 x0,.pbox (.leaf (.sl .byte)) x1 none]=(qqA V) n x0 x1:=by
 unfold qqA;rw [show (qeP V) (qbw V) ((qcw V) n) n=(fun s7 s8 s9 xv s29=>evLP qod n (sub qvq [1,0,0]) (qkG V x0 x1) (qoe s7 s8 s9 V xv s29)) from by
  funext s7 s8 s9 xv s29;refine Eq.trans ?_ ((qvr V) (qkG V x0 x1) n s7 s8 s9 xv s29).symm;rw [show (fun xv s29=>(qkG V x0 x1) (.exit 0) (qbN V xv s29))=((qcw V) n) from by
   funext xv s29;exact (qof V) x0 x1 n xv s29]
  all_goals kernel_rfl]
 kernel_rfl
theorem qsc:qfO G Tryz.prog 173 s_z173:=by
 refine qP G_stays (E:=qod) (fn:=Tryz.f173) (c:=qvq) (qf rfl qaS) (fun w S hg=>⟨⟨(qb (qmb w S hg) qc),fun f sp h=>qZ f sp h w S⟩,qae w S hg,(fun _ _ h=>by cases h),(fun f sp h=>qat f sp h),(fun f it h=>qau f it h),(fun t kt vt h=>qaa t kt vt h)⟩) follows Tryz.func173 (by kernel_rfl) (by kernel_rfl) (by kernel_rfl) ?_;intro avs r h;unfold s_z173 at h;split at h
 ·rename_i s V x _;simp only [yb] at h;obtain ⟨hp,rfl⟩:=h;obtain ⟨n,hn⟩:=qAI ⟨s,V⟩ _ _ hp;exact ⟨n,(qHQ ⟨s,V⟩ n _ _).trans hn⟩
 ·cases h
theorem qvs:qFu G Tryz.prog 173 qBn:=qqT qsc (enters_of Tryz.func173 (by kernel_rfl) rfl) (fun s V x x' y h=>by
 obtain ⟨h1,h2⟩:=yj h;subst h2;refine ⟨_,_,Prod.ext h1 rfl⟩)
def qHR:EnvP:=eQ [] 4 (none) nC nC (fun x=>if x=1 then some (.leaf (.sl .byte)) else none)
def qHS:Code:=cO Tryz.f163
def qKb:Array ResultVar:=Tryz.f163.results
theorem qHT (n:Nat) (s0:List UInt8) (o0:Lab):evFnR qHR n qHS qKb [db s0 o0]=qIt n s0:=by
 kernel_rfl
theorem qvt:qCy G Tryz.prog 163 s_z163:=by
 refine qgC G_stays (E:=qHR) (fn:=Tryz.f163) (c:=qHS) (qf rfl qaS) (fun w S hg=>⟨⟨qc,fun f sp h=>qZ f sp h w S⟩,qae w S hg,(fun _ _ h=>by cases h),(fun f sp h=>qat f sp h),(fun f it h=>qau f it h),(fun t kt vt h=>qaa t kt vt h)⟩) follows Tryz.func163 (by kernel_rfl) (by kernel_rfl) (by kernel_rfl) ?_;intro avs r h;unfold s_z163 at h;split at h
 ·simp only [yb,true_and] at h;subst h;exact ⟨0,qHT 0 _ _⟩
 ·cases h
def qHU:EnvP:=⟨⟨tiOf tis,fnsOf [],cnsOf [],[],39,(fun x=>if x=2000005 then some [4,5,6] else none),(fun x=>if x=0 then some [4,6] else if x=1 then some [1043,1044,1045] else none),some [1000002,3]⟩,(fun x=>if x=4 then some (.osl 5 .byte) else if x=5 then some (.leaf (.int .i64)) else if x=6 then some (.leaf (.int .i64)) else if x=25 then some (.osl 5 .byte) else if x=31 then some (.osl 5 .byte) else none),fun _=>none,fun _=>[],fun _=>none,(fun x=>if x=163 then some s_z163 else none),(fun x=>if x=173 then some qBn else none),fun _=>none⟩
def qHV:Code:=cO Tryz.f137
def qKc:Array ResultVar:=Tryz.f137.results
theorem qHW (n:Nat) (s0:List UInt8) (o0:Lab):evFnP qHU n qHV qKc [db s0 o0]=qwL n s0:=by
 kernel_rfl
theorem qvu:qg G Tryz.prog 137 s_z137:=by
 refine qB G_stays (E:=qHU) (fn:=Tryz.f137) (c:=qHV) (qf rfl qaS) (fun w S hg=>⟨⟨qc,fun f sp h=>qZ f sp h w S⟩,qae w S hg,(fun _ _ h=>by cases h),(fun f sp h=>(qsH (qvt w S hg) qat) f sp h),(fun f it h=>(qCd (qvs w S hg) qau) f it h),(fun t kt vt h=>qaa t kt vt h)⟩) follows Tryz.func137 (by kernel_rfl) (by kernel_rfl) (by kernel_rfl) ?_;intro avs r h;unfold s_z137 at h;split at h
 ·obtain ⟨hp,rfl⟩:=yj h;obtain ⟨n,hn⟩:=qAL _ hp;exact ⟨n,_,(qHW n _ _).trans hn,.inl rfl⟩
 ·cases h
def qHX:EnvP:=eQ [(137,s_z137)] 11 (some [2]) nC nC nP
def qHY:Code:=cO Tryz.f107
def qKd:Array ResultVar:=Tryz.f107.results
theorem qHZ (n:Nat) (s0:List UInt8) (o0:Lab):evFnP qHX n qHY qKd [db s0 o0]=qwN n s0:=by
 kernel_rfl
theorem qvv:qg G Tryz.prog 107 s_z107:=by
 refine sQ (E:=qHX) (c:=qHY) rfl (fun w S hg=>(qb (qvu w S hg) qc)) Tryz.func107 ?_;intro avs r h;unfold s_z107 at h;split at h
 ·obtain ⟨hp,rfl⟩:=yj h;obtain ⟨n,hn⟩:=qAM _ hp;exact ⟨n,_,(qHZ n _ _).trans hn,.inl rfl⟩
 ·cases h
def qIa:EnvP:=eQ [(124,s_z124)] 11 (some [2]) nC nC nP
def qIb:Code:=cO Tryz.f108
def qKe:Array ResultVar:=Tryz.f108.results
theorem qIc (n:Nat) (s0:List UInt8) (o0:Lab):evFnP qIa n qIb qKe [db s0 o0]=qwP n s0:=by
 kernel_rfl
theorem qvw:qg G Tryz.prog 108 s_z108:=by
 refine sQ (E:=qIa) (c:=qIb) rfl (fun w S hg=>(qb (qmd w S hg) qc)) Tryz.func108 ?_;intro avs r h;unfold s_z108 at h;split at h
 ·obtain ⟨hp,rfl⟩:=yj h;obtain ⟨n,hn⟩:=qAH _ hp;exact ⟨n,_,(qIc n _ _).trans hn,.inl rfl⟩
 ·cases h
def E_z64:EnvP:=eQ [(107,s_z107),(108,s_z108)] 12 (some [2]) nC nC nP
def C_z64:Code:=cO Tryz.f64
def R_z64:Array ResultVar:=Tryz.f64.results
theorem qKf (n:Nat) (w0:(List UInt8)×(Int×((List UInt8)×Unit))) (o0:Lab):evFnP E_z64 n C_z64 R_z64 [.dat (.pair (.sl .byte) (.pair (.int .i64) (.pair (.sl .byte) .unit))) w0 o0]=qDR n w0:=by
 kernel_rfl
theorem qzu:qg G Tryz.prog 64 s_z64:=by
 refine sQ (E:=E_z64) (c:=C_z64) rfl (fun w S hg=>(qb (qvv w S hg) (qb (qvw w S hg) qc))) Tryz.func64 ?_;intro avs r h;unfold s_z64 at h;split at h
 ·obtain ⟨hp,rfl⟩:=yj h;obtain ⟨n,hn⟩:=qEC _ hp;exact ⟨n,_,(qKf n _ _).trans hn,.inl rfl⟩
 ·cases h
def E_z39:EnvP:=eQ [(51,s_z51),(52,s_z52),(63,s_z63),(64,s_z64)] 18 (some [1000002,3]) nC nC nP
def C_z39:Code:=cO Tryz.f39
def R_z39:Array ResultVar:=Tryz.f39.results
theorem qKg (n:Nat) (s0:List UInt8) (o0:Lab):evFnP E_z39 n C_z39 R_z39 [db s0 o0]=qDS n s0:=by
 kernel_rfl
theorem qzv:qg G Tryz.prog 39 s_z39:=by
 refine sQ (E:=E_z39) (c:=C_z39) rfl (fun w S hg=>(qb (qgj w S hg) (qb (qpR w S hg) (qb (qzt w S hg) (qb (qzu w S hg) qc))))) Tryz.func39 ?_;intro avs r h;unfold s_z39 at h;split at h
 ·obtain ⟨hp,rfl⟩:=yj h;obtain ⟨n,hn⟩:=qEH _ hp;exact ⟨n,_,(qKg n _ _).trans hn,.inl rfl⟩
 ·cases h
def E_z50:EnvP:=⟨⟨tiOf tis,fnsOf [],cnsOf [],[],12,(fun _=>none),(fun _=>none),some [14]⟩,fun _=>none,fun _=>none,fun _=>[],(fun x=>if x=30 then some s_z30 else if x=32 then some s_z32 else none),fun _=>none,fun _=>none,(fun x=>if x=52 then some (52,52) else none)⟩
def C_z50:Code:=cO Tryz.f50
def R_z50:Array ResultVar:=Tryz.f50.results
theorem qzw (n:Nat) (p0:Int×((List UInt8)×Unit)) (o0:Lab) (x1:List Int) (o1:Lab) (x2:Int):evFnM E_z50 n C_z50 R_z50 [.dat (.pair (.int .i64) (.pair (.sl .byte) .unit)) p0 o0,.dat (.sl (.int .i32)) x1 o1,.fn 1000000007 [.fn 32 [.pbox (.leaf (.int .i64)) x2 none]]]=qkZ n p0 x1 x2:=by
 kernel_rfl
theorem qzx (n:Nat) (p0:Int×((List UInt8)×Unit)) (o0:Lab) (x1:List Int) (o1:Lab) (x2:List Int):evFnM E_z50 n C_z50 R_z50 [.dat (.pair (.int .i64) (.pair (.sl .byte) .unit)) p0 o0,.dat (.sl (.int .i32)) x1 o1,.fn 1000000007 [.fn 30 [.pbox (.osl 3 (.int .i64)) x2 none]]]=qla n p0 x1 x2:=by
 kernel_rfl
theorem qzy:qfO G Tryz.prog 50 s_z50:=by
 refine qP G_stays (E:=E_z50) (fn:=Tryz.f50) (c:=C_z50) (qf rfl qaS) (fun w S hg=>⟨⟨qc,fun f sp h=>qZ f sp h w S⟩,qae w S hg,(fun f sp h=>(qaQ (qza w S hg) (qaQ (qzh w S hg) qeb)) f sp h),(fun _ _ h=>by cases h),(fun _ _ h=>by cases h),(fun t kt vt h=>(qxH Tryz.underlying52 qaa) t kt vt h)⟩) follows Tryz.func50 (by kernel_rfl) (by kernel_rfl) (by kernel_rfl) ?_;intro avs r h;unfold s_z50 at h;split at h
 ·obtain ⟨hp,rfl⟩:=yj h;obtain ⟨n,hn⟩:=qsi _ _ _ hp;exact ⟨n,(qzw n _ _ _ _ _).trans hn⟩
 ·simp only [yb] at h;obtain ⟨hp,rfl⟩:=h;obtain ⟨n,hn⟩:=qsj _ _ _ hp;exact ⟨n,(qzx n _ _ _ _ _).trans hn⟩
 ·cases h
def E_z20:EnvP:=⟨⟨tiOf tis,fnsOf [(37,s_z37),(38,s_z38),(39,s_z39)],cnsOf [],[],35,(fun x=>if x=1 then some [1,9,10,11,36] else none),(fun x=>if x=0 then some [36] else if x=1 then some [1,9,10,11,36] else none),some [36]⟩,fun _=>none,fun _=>none,fun _=>[],(fun x=>if x=21 then some s_z21 else if x=28 then some s_z28 else if x=50 then some s_z50 else none),fun _=>none,fun _=>none,fun _=>none⟩
def C_z20:Code:=cO Tryz.f20
def R_z20:Array ResultVar:=Tryz.f20.results
noncomputable def qmp (K:Ex→Fr→Option AV):=fun s36=>K (.exit 0) (frOf [(36,(.pbox (.osl 21 (.int .i32)) s36 none))])
def qpZ (s0:List UInt8) (f1:List Int):Ex→Fr→Option AV:=qo 0 (E_z20.cutb 0) (kFnM E_z20 R_z20 [db s0 none,.fn 21 [.pbox (.osl 21 (.int .i32)) f1 none]])
def qvx (s9:List (Int×((List UInt8)×Unit))) (s10:Int) (s11:Int) (s36:List Int):Fr:=frOf [(1,(.padr 36 [.clo 21 false])),(9,(.dat (.sl (.pair (.int .i64) (.pair (.sl .byte) .unit))) s9 (some (9,41)))),(10,dc s10),(11,dc s11),(36,(.pbox (.osl 21 (.int .i32)) s36 none))]
theorem qog (K:Ex→Fr→Option AV):∀ (n:Nat) (s9:List (Int×((List UInt8)×Unit))) (s10:Int) (s11:Int) (s36:List Int),evLP E_z20 n (sub C_z20 [1,0,0]) K (qvx s9 s10 s11 s36)=qcx (qmp K) n s9 s10 s11 s36:=by
 intro n;induction n with
 | zero=>intros; rfl
 | succ n IH =>
 intro s9 s10 s11 s36;have ih:(fun s9 s10 s11 s36=>evLP E_z20 n (sub C_z20 [1,0,0]) K (qvx s9 s10 s11 s36))=qcx (qmp K) n:=by
  funext s9 s10 s11 s36;exact IH s9 s10 s11 s36
 show _=qbh (qmp K) (qcx (qmp K) n) n s9 s10 s11 s36;rw [← ih];kernel_rfl
theorem qkH (s0:List UInt8) (f1:List Int) (n:Nat) (s36:List Int):(qpZ s0 f1) (.exit 0) (frOf [(36,(.pbox (.osl 21 (.int .i32)) s36 none))])=qcf n s36:=by
 kernel_rfl
theorem qzz (n:Nat) (s0:List UInt8) (o0:Lab) (f1:List Int):evFnM E_z20 n C_z20 R_z20 [db s0 o0,.fn 21 [.pbox (.osl 21 (.int .i32)) f1 none]]=qgw n s0 f1:=by
 unfold qgw;rw [show qcx (qcf n) n=(fun s9 s10 s11 s36=>evLP E_z20 n (sub C_z20 [1,0,0]) (qpZ s0 f1) (qvx s9 s10 s11 s36)) from by
  funext s9 s10 s11 s36;refine Eq.trans ?_ (qog (qpZ s0 f1) n s9 s10 s11 s36).symm;rw [show (qmp (qpZ s0 f1))=(qcf n) from by
   funext s36;exact qkH s0 f1 n s36]
  all_goals kernel_rfl]
 kernel_rfl
end
end Go.Av
