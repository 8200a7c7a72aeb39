import Derived.Test.YtnfehbljinflbaaGreatDoorRRRRErEvG
import Derived.Test.YtnfehbljinflbaaGreatDoorRRRREtN
import Derived.Test.YtnfehbljinflbaaGreatDoorRRRRProg
import Derived.KernelRfl
namespace Go.Av
set_option linter.unusedSimpArgs false
noncomputable section
open Go.Proofs
set_option maxRecDepth 100000
set_option linter.unusedVariables false
def qkE:EnvP:=eQ [(135,s_z135)] 19 (some [2]) (fun x=>if x=3 then some [3,6,7,8] else none) (fun x=>if x=0 then some [3] else if x=1 then some [3,6,7,8] else none) nP
def qrX:Code:=cO Tryz.f104
def qHn:Array ResultVar:=Tryz.f104.results
noncomputable def qhB (K:Ex→Fr→Option AV):=fun t3=>K (.exit 0) (frOf [(3,(.dat (.sl (.int .i32)) t3 (some (3,21))))])
def qkF (n:Nat):Ex→Fr→Option AV:=qm 0 (qkE.cutb 0) (kSeq (evCP qkE (evLP qkE n) (sub qrX [1,1,1])) (kFnP qkE qHn))
def qnZ (t3:List Int) (s6:List UInt8) (s7:Int) (s8:Int):Fr:=frOf [(3,(.dat (.sl (.int .i32)) t3 (some (3,21)))),(6,da s6),(7,dc s7),(8,dc s8)]
theorem qvh (K:Ex→Fr→Option AV):∀ (n:Nat) (t3:List Int) (s6:List UInt8) (s7:Int) (s8:Int),evLP qkE n (sub qrX [1,1,0,1,0,0]) K (qnZ t3 s6 s7 s8)=qhU (qhB K) n t3 s6 s7 s8:=by
 intro n;induction n with
 | zero=>intros; rfl
 | succ n IH =>
 intro t3 s6 s7 s8;have ih:(fun t3 s6 s7 s8=>evLP qkE n (sub qrX [1,1,0,1,0,0]) K (qnZ t3 s6 s7 s8))=qhU (qhB K) n:=by
  funext t3 s6 s7 s8;exact IH t3 s6 s7 s8
 show _=qdA (qhB K) (qhU (qhB K) n) n t3 s6 s7 s8;rw [← ih];kernel_rfl
theorem qoa (n:Nat) (t3:List Int):(qkF n) (.exit 0) (frOf [(3,(.dat (.sl (.int .i32)) t3 (some (3,21))))])=qdB n t3:=by
 kernel_rfl
theorem qHo (n:Nat) (s0:List UInt8) (o0:Lab):evFnP qkE n qrX qHn [db s0 o0]=qqw n s0:=by
 unfold qqw;rw [show qhU (qdB n) n=(fun t3 s6 s7 s8=>evLP qkE n (sub qrX [1,1,0,1,0,0]) (qkF n) (qnZ t3 s6 s7 s8)) from by
  funext t3 s6 s7 s8;refine Eq.trans ?_ (qvh (qkF n) n t3 s6 s7 s8).symm;rw [show (qhB (qkF n))=(qdB n) from by
   funext t3;exact qoa n t3]
  all_goals kernel_rfl]
 kernel_rfl
theorem qvi:qf G Tryz.prog 104 s_z104:=by
 refine sQ (E:=qkE) (c:=qrX) rfl (fun w S hg=>(qb (qvg w S hg) qc)) Tryz.func104 ?_;intro avs r h;unfold s_z104 at h;split at h
 ·obtain ⟨hp,rfl⟩:=yj h;obtain ⟨n,hn⟩:=qAo _ hp;exact ⟨n,_,(qHo n _ _).trans hn,.inl rfl⟩
 ·cases h
def qHp:EnvP:=⟨⟨tiOf tis,fnsOf [],cnsOf [],[],4,(fun _=>none),(fun _=>none),some [0]⟩,fun _=>none,fun _=>none,(fun x=>if x=500002 then [1] else []),fun _=>none,fun _=>none,fun _=>none,fun _=>none⟩
def qHq:Code:=cO Tryz.f162
def qJD:Array ResultVar:=Tryz.f162.results
theorem qHr (n:Nat)  : evFnP qHp n qHq qJD []=qBA n  := by
 kernel_rfl
theorem qvj:qf G Tryz.prog 162 s_z162:=by
 refine qB G_stays (E:=qHp) (fn:=Tryz.f162) (c:=qHq) (qe rfl qaU) (fun w S hg=>⟨⟨qc,fun f sp h=>qZ f sp h w S⟩,qae w S hg,(fun _ _ h=>by cases h),(fun f sp h=>qat f sp h),(fun f it h=>qau f it h),(fun t kt vt h=>qaa t kt vt h)⟩) follows Tryz.func162 (by kernel_rfl) (by kernel_rfl) (by kernel_rfl) ?_;intro avs r h;unfold s_z162 at h;split at h <;> cases h
 obtain ⟨n,hn⟩:=qAi;exact ⟨n,_,(qHr n ).trans hn,.inl rfl⟩
def qHs:EnvP:=eQ [(162,s_z162)] 20 (some [2]) nC nC nP
def qHt:Code:=cO Tryz.f136
def qJE:Array ResultVar:=Tryz.f136.results
theorem qHu (n:Nat) (x0:UInt8) (o0:Lab):evFnP qHs n qHt qJE [di x0 o0]=qwD n x0:=by
 kernel_rfl
theorem qvk:qf G Tryz.prog 136 s_z136:=by
 refine sQ (E:=qHs) (c:=qHt) rfl (fun w S hg=>(qb (qvj w S hg) qc)) Tryz.func136 ?_;intro avs r h;unfold s_z136 at h;split at h <;> cases h
 obtain ⟨n,hn⟩:=qAp _;exact ⟨n,_,(qHu n _ _).trans hn,.inl rfl⟩
def qkG:EnvP:=eQ [(136,s_z136)] 22 (some [2]) (fun x=>if x=3 then some [3,9,10,11] else none) (fun x=>if x=0 then some [3] else if x=1 then some [3,9,10,11] else none) nP
def qrY:Code:=cO Tryz.f105
def qHv:Array ResultVar:=Tryz.f105.results
noncomputable def qhC (K:Ex→Fr→Option AV):=fun t3=>K (.exit 0) (frOf [(3,(.dat (.sl (.int .i32)) t3 (some (3,21))))])
def qkH (n:Nat):Ex→Fr→Option AV:=qm 0 (qkG.cutb 0) (kSeq (evCP qkG (evLP qkG n) (sub qrY [1,1,1])) (kFnP qkG qHv))
def qob (t3:List Int) (s9:List UInt8) (s10:Int) (s11:Int):Fr:=frOf [(3,(.dat (.sl (.int .i32)) t3 (some (3,21)))),(9,da s9),(10,dc s10),(11,dc s11)]
theorem qvl (K:Ex→Fr→Option AV):∀ (n:Nat) (t3:List Int) (s9:List UInt8) (s10:Int) (s11:Int),evLP qkG n (sub qrY [1,1,0,1,0,0]) K (qob t3 s9 s10 s11)=qhW (qhC K) n t3 s9 s10 s11:=by
 intro n;induction n with
 | zero=>intros; rfl
 | succ n IH =>
 intro t3 s9 s10 s11;have ih:(fun t3 s9 s10 s11=>evLP qkG n (sub qrY [1,1,0,1,0,0]) K (qob t3 s9 s10 s11))=qhW (qhC K) n:=by
  funext t3 s9 s10 s11;exact IH t3 s9 s10 s11
 show _=qdC (qhC K) (qhW (qhC K) n) n t3 s9 s10 s11;rw [← ih];kernel_rfl
theorem qoc (n:Nat) (t3:List Int):(qkH n) (.exit 0) (frOf [(3,(.dat (.sl (.int .i32)) t3 (some (3,21))))])=qdD n t3:=by
 kernel_rfl
theorem qHw (n:Nat) (s0:List UInt8) (o0:Lab):evFnP qkG n qrY qHv [db s0 o0]=qqx n s0:=by
 unfold qqx;rw [show qhW (qdD n) n=(fun t3 s9 s10 s11=>evLP qkG n (sub qrY [1,1,0,1,0,0]) (qkH n) (qob t3 s9 s10 s11)) from by
  funext t3 s9 s10 s11;refine Eq.trans ?_ (qvl (qkH n) n t3 s9 s10 s11).symm;rw [show (qhC (qkH n))=(qdD n) from by
   funext t3;exact qoc n t3]
  all_goals kernel_rfl]
 kernel_rfl
theorem qvm:qf G Tryz.prog 105 s_z105:=by
 refine sQ (E:=qkG) (c:=qrY) rfl (fun w S hg=>(qb (qvk w S hg) qc)) Tryz.func105 ?_;intro avs r h;unfold s_z105 at h;split at h
 ·obtain ⟨hp,rfl⟩:=yj h;obtain ⟨n,hn⟩:=qAq _ hp;exact ⟨n,_,(qHw n _ _).trans hn,.inl rfl⟩
 ·cases h
def E_z63:EnvP:=eQ [(38,s_z38),(103,s_z103),(104,s_z104),(105,s_z105),(106,s_z106)] 24 (some [1000004]) nC (fun x=>if x=0 then some [1] else none) nP
def C_z63:Code:=cO Tryz.f63
def R_z63:Array ResultVar:=Tryz.f63.results
theorem qJF (n:Nat) (charset0:Int) (o0:Lab) (s1:List UInt8) (o1:Lab):evFnP E_z63 n C_z63 R_z63 [de charset0 o0,db s1 o1]=qDB n charset0 s1:=by
 kernel_rfl
theorem qzn:qf G Tryz.prog 63 s_z63:=by
 refine sQ (E:=E_z63) (c:=C_z63) rfl (fun w S hg=>(qb (qpX w S hg) (qb (qvd w S hg) (qb (qvi w S hg) (qb (qvm w S hg) (qb (qmp w S hg) qc)))))) Tryz.func63 ?_;intro avs r h;unfold s_z63 at h;split at h
 ·obtain ⟨hp,rfl⟩:=yj h;obtain ⟨n,hn⟩:=qEa _ _ hp;exact ⟨n,_,(qJF n _ _ _ _).trans hn,.inl rfl⟩
 ·cases h
def qod:EnvP:=eQ [(121,s_z121)] 28 (some [28,29]) (fun x=>if x=1 then some [0,7,8,9,28,29] else none) (fun x=>if x=0 then some [28,29] else if x=1 then some [0,7,8,9,28,29] else none) nP
def qvn:Code:=cO Tryz.f173
def qHx:Array ResultVar:=Tryz.f173.results
def qkI (V:Sigma Inv) (x0:Den V.1) (x1:List UInt8):Ex→Fr→Option AV:=qm 0 (qod.cutb 0) (kFnM qod qHx [.abs V.1 V.2 x0,.pbox (.leaf (.sl .byte)) x1 none])
def qoe (s7:List UInt8) (s8:Int) (s9:Int) (V:Sigma Inv) (xv:Den V.1) (s29:List UInt8):Fr:=frOf [(0,(.padr 28 [])),(7,da s7),(8,dc s8),(9,dc s9),(28,(.abs V.1 V.2 xv)),(29,(.pbox (.leaf (.sl .byte)) s29 none))]
def qbP (V:Sigma Inv) (xv:Den V.1) (s29:List UInt8):Fr:=frOf [(28,(.abs V.1 V.2 xv)),(29,(.pbox (.leaf (.sl .byte)) s29 none))]
theorem qvo (V:Sigma Inv) (K:Ex→Fr→Option AV):∀ (n:Nat) (s7:List UInt8) (s8:Int) (s9:Int) (xv:Den V.1) (s29:List UInt8),evLP qod n (sub qvn [1,0,0]) K (qoe s7 s8 s9 V xv s29)=(qeP V) (fun xv s29=>K .ret (qbP V xv s29)) (fun xv s29=>K (.exit 0) (qbP V xv s29)) n s7 s8 s9 xv s29:=by
 intro n;induction n with
 | zero=>intros; rfl
 | succ n IH =>
 intro s7 s8 s9 xv s29;have ih:(fun s7 s8 s9 xv s29=>evLP qod n (sub qvn [1,0,0]) K (qoe s7 s8 s9 V xv s29))=(qeP V) (fun xv s29=>K .ret (qbP V xv s29)) (fun xv s29=>K (.exit 0) (qbP V xv s29)) n:=by
  funext s7 s8 s9 xv s29;exact IH s7 s8 s9 xv s29
 show _=(qdE V) (fun xv s29=>K .ret (qbP V xv s29)) (fun xv s29=>K (.exit 0) (qbP V xv s29)) ((qeP V) (fun xv s29=>K .ret (qbP V xv s29)) (fun xv s29=>K (.exit 0) (qbP V xv s29)) n) n s7 s8 s9 xv s29;rw [← ih];kernel_rfl
theorem qof (V:Sigma Inv) (x0:Den V.1) (x1:List UInt8) (n:Nat) (xv:Den V.1) (s29:List UInt8):(qkI V x0 x1) (.exit 0) (qbP V xv s29)=(qcv V) n xv s29:=by
 kernel_rfl
theorem qHy (V:Sigma Inv) (n:Nat) (x0:Den V.1) (x1:List UInt8):evFnM qod n qvn qHx [.abs V.1 V.2 x0,.pbox (.leaf (.sl .byte)) x1 none]=(qqy V) n x0 x1:=by
 unfold qqy;rw [show (qeP V) (qby V) ((qcv V) n) n=(fun s7 s8 s9 xv s29=>evLP qod n (sub qvn [1,0,0]) (qkI V x0 x1) (qoe s7 s8 s9 V xv s29)) from by
  funext s7 s8 s9 xv s29;refine Eq.trans ?_ ((qvo V) (qkI V x0 x1) n s7 s8 s9 xv s29).symm;rw [show (fun xv s29=>(qkI V x0 x1) (.exit 0) (qbP V xv s29))=((qcv V) n) from by
   funext xv s29;exact (qof V) x0 x1 n xv s29]
  all_goals kernel_rfl]
 kernel_rfl
theorem qrZ:qfR G Tryz.prog 173 s_z173:=by
 refine qP G_stays (E:=qod) (fn:=Tryz.f173) (c:=qvn) (qe rfl qaU) (fun w S hg=>⟨⟨(qb (qmc w S hg) qc),fun f sp h=>qZ f sp h w S⟩,qae w S hg,(fun _ _ h=>by cases h),(fun f sp h=>qat f sp h),(fun f it h=>qau f it h),(fun t kt vt h=>qaa t kt vt h)⟩) follows Tryz.func173 (by kernel_rfl) (by kernel_rfl) (by kernel_rfl) ?_;intro avs r h;unfold s_z173 at h;split at h
 ·rename_i s V x _;simp only [yb] at h;obtain ⟨hp,rfl⟩:=h;obtain ⟨n,hn⟩:=qAy ⟨s,V⟩ _ _ hp;exact ⟨n,(qHy ⟨s,V⟩ n _ _).trans hn⟩
 ·cases h
theorem qvp:qFc G Tryz.prog 173 qBd:=qqQ qrZ (enters_of Tryz.func173 (by kernel_rfl) rfl) (fun s V x x' y h=>by
 obtain ⟨h1,h2⟩:=yj h;subst h2;refine ⟨_,_,Prod.ext h1 rfl⟩)
def qHz:EnvP:=eQ [] 4 (none) nC nC (fun x=>if x=1 then some (.leaf (.sl .byte)) else none)
def qHA:Code:=cO Tryz.f163
def qJG:Array ResultVar:=Tryz.f163.results
theorem qHB (n:Nat) (s0:List UInt8) (o0:Lab):evFnR qHz n qHA qJG [db s0 o0]=qHY n s0:=by
 kernel_rfl
theorem qvq:qCn G Tryz.prog 163 s_z163:=by
 refine qgG G_stays (E:=qHz) (fn:=Tryz.f163) (c:=qHA) (qe rfl qaU) (fun w S hg=>⟨⟨qc,fun f sp h=>qZ f sp h w S⟩,qae w S hg,(fun _ _ h=>by cases h),(fun f sp h=>qat f sp h),(fun f it h=>qau f it h),(fun t kt vt h=>qaa t kt vt h)⟩) follows Tryz.func163 (by kernel_rfl) (by kernel_rfl) (by kernel_rfl) ?_;intro avs r h;unfold s_z163 at h;split at h
 ·simp only [yb,true_and] at h;subst h;exact ⟨0,qHB 0 _ _⟩
 ·cases h
def qHC:EnvP:=⟨⟨tiOf tis,fnsOf [],cnsOf [],[],39,(fun x=>if x=2000005 then some [4,5,6] else none),(fun x=>if x=0 then some [4,6] else if x=1 then some [1043,1044,1045] else none),some [1000002,3]⟩,(fun x=>if x=4 then some (.osl 5 .byte) else if x=5 then some (.leaf (.int .i64)) else if x=6 then some (.leaf (.int .i64)) else if x=25 then some (.osl 5 .byte) else if x=31 then some (.osl 5 .byte) else none),fun _=>none,fun _=>[],fun _=>none,(fun x=>if x=163 then some s_z163 else none),(fun x=>if x=173 then some qBd else none),fun _=>none⟩
def qHD:Code:=cO Tryz.f137
def qJH:Array ResultVar:=Tryz.f137.results
theorem qHE (n:Nat) (s0:List UInt8) (o0:Lab):evFnP qHC n qHD qJH [db s0 o0]=qwF n s0:=by
 kernel_rfl
theorem qvr:qf G Tryz.prog 137 s_z137:=by
 refine qB G_stays (E:=qHC) (fn:=Tryz.f137) (c:=qHD) (qe rfl qaU) (fun w S hg=>⟨⟨qc,fun f sp h=>qZ f sp h w S⟩,qae w S hg,(fun _ _ h=>by cases h),(fun f sp h=>(qsF (qvq w S hg) qat) f sp h),(fun f it h=>(qBS (qvp w S hg) qau) f it h),(fun t kt vt h=>qaa t kt vt h)⟩) follows Tryz.func137 (by kernel_rfl) (by kernel_rfl) (by kernel_rfl) ?_;intro avs r h;unfold s_z137 at h;split at h
 ·obtain ⟨hp,rfl⟩:=yj h;obtain ⟨n,hn⟩:=qAB _ hp;exact ⟨n,_,(qHE n _ _).trans hn,.inl rfl⟩
 ·cases h
def qHF:EnvP:=eQ [(137,s_z137)] 11 (some [2]) nC nC nP
def qHG:Code:=cO Tryz.f107
def qJI:Array ResultVar:=Tryz.f107.results
theorem qHH (n:Nat) (s0:List UInt8) (o0:Lab):evFnP qHF n qHG qJI [db s0 o0]=qwH n s0:=by
 kernel_rfl
theorem qvs:qf G Tryz.prog 107 s_z107:=by
 refine sQ (E:=qHF) (c:=qHG) rfl (fun w S hg=>(qb (qvr w S hg) qc)) Tryz.func107 ?_;intro avs r h;unfold s_z107 at h;split at h
 ·obtain ⟨hp,rfl⟩:=yj h;obtain ⟨n,hn⟩:=qAC _ hp;exact ⟨n,_,(qHH n _ _).trans hn,.inl rfl⟩
 ·cases h
def qHI:EnvP:=eQ [(124,s_z124)] 11 (some [2]) nC nC nP
def qHJ:Code:=cO Tryz.f108
def qJJ:Array ResultVar:=Tryz.f108.results
theorem qHK (n:Nat) (s0:List UInt8) (o0:Lab):evFnP qHI n qHJ qJJ [db s0 o0]=qwJ n s0:=by
 kernel_rfl
theorem qvt:qf G Tryz.prog 108 s_z108:=by
 refine sQ (E:=qHI) (c:=qHJ) rfl (fun w S hg=>(qb (qme w S hg) qc)) Tryz.func108 ?_;intro avs r h;unfold s_z108 at h;split at h
 ·obtain ⟨hp,rfl⟩:=yj h;obtain ⟨n,hn⟩:=qAx _ hp;exact ⟨n,_,(qHK n _ _).trans hn,.inl rfl⟩
 ·cases h
def E_z64:EnvP:=eQ [(107,s_z107),(108,s_z108)] 12 (some [2]) nC nC nP
def C_z64:Code:=cO Tryz.f64
def R_z64:Array ResultVar:=Tryz.f64.results
theorem qJK (n:Nat) (w0:(List UInt8)×(Int×((List UInt8)×Unit))) (o0:Lab):evFnP E_z64 n C_z64 R_z64 [.dat (.pair (.sl .byte) (.pair (.int .i64) (.pair (.sl .byte) .unit))) w0 o0]=qDC n w0:=by
 kernel_rfl
theorem qzo:qf G Tryz.prog 64 s_z64:=by
 refine sQ (E:=E_z64) (c:=C_z64) rfl (fun w S hg=>(qb (qvs w S hg) (qb (qvt w S hg) qc))) Tryz.func64 ?_;intro avs r h;unfold s_z64 at h;split at h
 ·obtain ⟨hp,rfl⟩:=yj h;obtain ⟨n,hn⟩:=qEl _ hp;exact ⟨n,_,(qJK n _ _).trans hn,.inl rfl⟩
 ·cases h
def E_z39:EnvP:=eQ [(51,s_z51),(52,s_z52),(63,s_z63),(64,s_z64)] 18 (some [1000002,3]) nC nC nP
def C_z39:Code:=cO Tryz.f39
def R_z39:Array ResultVar:=Tryz.f39.results
theorem qJL (n:Nat) (s0:List UInt8) (o0:Lab):evFnP E_z39 n C_z39 R_z39 [db s0 o0]=qDD n s0:=by
 kernel_rfl
theorem qzp:qf G Tryz.prog 39 s_z39:=by
 refine sQ (E:=E_z39) (c:=C_z39) rfl (fun w S hg=>(qb (qgm w S hg) (qb (qpQ w S hg) (qb (qzn w S hg) (qb (qzo w S hg) qc))))) Tryz.func39 ?_;intro avs r h;unfold s_z39 at h;split at h
 ·obtain ⟨hp,rfl⟩:=yj h;obtain ⟨n,hn⟩:=qEq _ hp;exact ⟨n,_,(qJL n _ _).trans hn,.inl rfl⟩
 ·cases h
end
end Go.Av
