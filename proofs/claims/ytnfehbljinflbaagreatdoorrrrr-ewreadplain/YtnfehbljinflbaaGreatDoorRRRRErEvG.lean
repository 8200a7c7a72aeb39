import Derived.Test.YtnfehbljinflbaaGreatDoorRRRRErEvF
import Derived.Test.YtnfehbljinflbaaGreatDoorRRRREtN
import Derived.Test.YtnfehbljinflbaaGreatDoorRRRRProg
import Derived.KernelRfl
namespace Go.Av
set_option linter.unusedSimpArgs false
noncomputable section
open Go.Proofs
set_option maxRecDepth 100000
set_option linter.unusedVariables false
def qGW:EnvP:=eQ [] 10 (some [2]) nC (fun x=>if x=0 then some [] else none) nP
def qGX:Code:=cO Tryz.f133
def qJz:Array ResultVar:=Tryz.f133.results
theorem qGY (n:Nat) (n0:Int) (o0:Lab):evFnP qGW n qGX qJz [de n0 o0]=qwy n n0:=by
 kernel_rfl
theorem quW:qf G Tryz.prog 133 s_z133:=by
 refine sQ (E:=qGW) (c:=qGX) rfl (fun w S hg=>qc) Tryz.func133 ?_;intro avs r h;unfold s_z133 at h;split at h <;> cases h
 obtain ⟨n,hn⟩:=qAg _;exact ⟨n,_,(qGY n _ _).trans hn,.inl rfl⟩
def qku:EnvP:=eQ [(131,s_z131),(132,s_z132),(133,s_z133)] 63 (some [2,3,4]) (fun x=>if x=12 then some [5,6,48,49,50] else none) (fun x=>if x=0 then some [0,5] else if x=1 then some [5,6] else if x=2 then some [5,6,48,49,50] else none) nP
def qrS:Code:=cO Tryz.f102
def qGZ:Array ResultVar:=Tryz.f102.results
noncomputable def qhy (K:Ex→Fr→Option AV):=fun n5 c6=>K (.exit 1) (frOf [(5,dc n5),(6,(.dat (.int .i32) c6 none))])
def qkv (n:Nat):Ex→Fr→Option AV:=qm 1 (qku.cutb 1) (kSeq (evCP qku (evLP qku n) (sub qrS [1,1,1,1,1,1])) (kFnP qku qGZ))
def qnR (n5:Int) (c6:Int) (s48:List UInt8) (s49:Int) (s50:Int):Fr:=frOf [(5,dc n5),(6,(.dat (.int .i32) c6 none)),(48,da s48),(49,dc s49),(50,dc s50)]
theorem qrT (K:Ex→Fr→Option AV):∀ (n:Nat) (n5:Int) (c6:Int) (s48:List UInt8) (s49:Int) (s50:Int),evLP qku n (sub qrS [1,1,1,1,1,0,1,0,0]) K (qnR n5 c6 s48 s49 s50)=qcZ (qhy K) n n5 c6 s48 s49 s50:=by
 intro n;induction n with
 | zero=>intros; rfl
 | succ n IH =>
 intro n5 c6 s48 s49 s50;have ih:(fun n5 c6 s48 s49 s50=>evLP qku n (sub qrS [1,1,1,1,1,0,1,0,0]) K (qnR n5 c6 s48 s49 s50))=qcZ (qhy K) n:=by
  funext n5 c6 s48 s49 s50;exact IH n5 c6 s48 s49 s50
 show _=qcc (qhy K) (qcZ (qhy K) n) n n5 c6 s48 s49 s50;rw [← ih];kernel_rfl
theorem qmn (n:Nat) (n5:Int) (c6:Int):(qkv n) (.exit 1) (frOf [(5,dc n5),(6,(.dat (.int .i32) c6 none))])=qcd n n5 c6:=by
 kernel_rfl
theorem qHa (n:Nat) (s0:List UInt8) (o0:Lab):evFnP qku n qrS qGZ [db s0 o0]=qqr n s0:=by
 unfold qqr qeM qeL qda qce qbw;rw [show qcZ (qcd n) n=(fun n5 c6 s48 s49 s50=>evLP qku n (sub qrS [1,1,1,1,1,0,1,0,0]) (qkv n) (qnR n5 c6 s48 s49 s50)) from by
  funext n5 c6 s48 s49 s50;refine Eq.trans ?_ (qrT (qkv n) n n5 c6 s48 s49 s50).symm;rw [show (qhy (qkv n))=(qcd n) from by
   funext n5 c6;exact qmn n n5 c6]
  all_goals kernel_rfl]
 kernel_rfl
theorem quX:qf G Tryz.prog 102 s_z102:=by
 refine sQ (E:=qku) (c:=qrS) rfl (fun w S hg=>(qb (quV w S hg) (qb (qml w S hg) (qb (quW w S hg) qc)))) Tryz.func102 ?_;intro avs r h;unfold s_z102 at h;split at h
 ·obtain ⟨hp,rfl⟩:=yj h;obtain ⟨n,hn⟩:=qAH _ hp;exact ⟨n,_,(qHa n _ _).trans hn,.inl rfl⟩
 ·cases h
def E_z61:EnvP:=⟨⟨tiOf tis,fnsOf [(102,s_z102)],cnsOf [],[],23,(fun x=>if x=0 then some [0,1,24] else none),(fun x=>if x=0 then some [24] else if x=1 then some [0,1,24] else none),some [24]⟩,fun _=>none,fun _=>none,fun _=>[],(fun x=>if x=62 then some s_z62 else none),fun _=>none,fun _=>none,fun _=>none⟩
def C_z61:Code:=cO Tryz.f61
def R_z61:Array ResultVar:=Tryz.f61.results
noncomputable def qmo (K:Ex→Fr→Option AV):=fun s24=>K (.exit 0) (frOf [(24,(.pbox (.osl 21 (.int .i32)) s24 none))])
def qpW (s0:List UInt8) (f1:List Int):Ex→Fr→Option AV:=qm 0 (E_z61.cutb 0) (kFnM E_z61 R_z61 [db s0 none,.fn 62 [.pbox (.osl 21 (.int .i32)) f1 none]])
def quY (s0:List UInt8) (s24:List Int):Fr:=frOf [(0,da s0),(1,(.padr 24 [.clo 62 false])),(24,(.pbox (.osl 21 (.int .i32)) s24 none))]
theorem qnS (K:Ex→Fr→Option AV):∀ (n:Nat) (s0:List UInt8) (s24:List Int),evLP E_z61 n (sub C_z61 [0,0]) K (quY s0 s24)=qbK (qmo K) n s0 s24:=by
 intro n;induction n with
 | zero=>intros; rfl
 | succ n IH =>
 intro s0 s24;have ih:(fun s0 s24=>evLP E_z61 n (sub C_z61 [0,0]) K (quY s0 s24))=qbK (qmo K) n:=by
  funext s0 s24;exact IH s0 s24
 show _=qdx (qmo K) (qbK (qmo K) n) n s0 s24;rw [← ih];kernel_rfl
theorem qkw (s0:List UInt8) (f1:List Int) (n:Nat) (s24:List Int):(qpW s0 f1) (.exit 0) (frOf [(24,(.pbox (.osl 21 (.int .i32)) s24 none))])=qbi n s24:=by
 kernel_rfl
theorem qzl (n:Nat) (s0:List UInt8) (o0:Lab) (f1:List Int):evFnM E_z61 n C_z61 R_z61 [db s0 o0,.fn 62 [.pbox (.osl 21 (.int .i32)) f1 none]]=qkZ n s0 f1:=by
 unfold qkZ;rw [show qbK (qbi n) n=(fun s0 s24=>evLP E_z61 n (sub C_z61 [0,0]) (qpW s0 f1) (quY s0 s24)) from by
  funext s0 s24;refine Eq.trans ?_ (qnS (qpW s0 f1) n s0 s24).symm;rw [show (qmo (qpW s0 f1))=(qbi n) from by
   funext s24;exact qkw s0 f1 n s24]
  all_goals kernel_rfl]
 kernel_rfl
theorem qzm:qfR G Tryz.prog 61 s_z61:=by
 refine qP G_stays (E:=E_z61) (fn:=Tryz.f61) (c:=C_z61) (qe rfl qaU) (fun w S hg=>⟨⟨(qb (quX w S hg) qc),fun f sp h=>qZ f sp h w S⟩,qae w S hg,(fun f sp h=>(qaS (qzk w S hg) qec) f sp h),(fun _ _ h=>by cases h),(fun _ _ h=>by cases h),(fun t kt vt h=>qaa t kt vt h)⟩) follows Tryz.func61 (by kernel_rfl) (by kernel_rfl) (by kernel_rfl) ?_;intro avs r h;unfold s_z61 at h;split at h
 ·obtain ⟨hp,rfl⟩:=yj h;obtain ⟨n,hn⟩:=qss _ _ hp;exact ⟨n,(qzl n _ _ _).trans hn⟩
 ·cases h
def E_z38:EnvP:=⟨⟨tiOf tis,fnsOf [],cnsOf [],[],8,(fun _=>none),(fun _=>none),some [2]⟩,(fun x=>if x=3 then some (.osl 21 (.int .i32)) else none),fun _=>none,fun _=>[],(fun x=>if x=61 then some s_z61 else none),fun _=>none,fun _=>none,fun _=>none⟩
def C_z38:Code:=cO Tryz.f38
def R_z38:Array ResultVar:=Tryz.f38.results
theorem qJA (n:Nat) (s0:List UInt8) (o0:Lab):evFnP E_z38 n C_z38 R_z38 [db s0 o0]=qDA n s0:=by
 kernel_rfl
theorem qpX:qf G Tryz.prog 38 s_z38:=by
 refine qB G_stays (E:=E_z38) (fn:=Tryz.f38) (c:=C_z38) (qe rfl qaU) (fun w S hg=>⟨⟨qc,fun f sp h=>qZ f sp h w S⟩,qae w S hg,(fun f sp h=>(qaS (qzm w S hg) qec) f sp h),(fun f sp h=>qat f sp h),(fun f it h=>qau f it h),(fun t kt vt h=>qaa t kt vt h)⟩) follows Tryz.func38 (by kernel_rfl) (by kernel_rfl) (by kernel_rfl) ?_;intro avs r h;unfold s_z38 at h;split at h
 ·obtain ⟨hp,rfl⟩:=yj h;obtain ⟨n,hn⟩:=qEp _ hp;exact ⟨n,_,(qJA n _ _).trans hn,.inl rfl⟩
 ·cases h
def qkx:EnvP:=eQ [] 23 (some [2]) (fun x=>if x=3 then some [3,9,10,11] else none) (fun x=>if x=0 then some [3] else if x=1 then some [3,9,10,11] else none) (fun x=>if x=8 then some (.psl 21 (.leaf (.int .i32))) else none)
def qrU:Code:=cO Tryz.f106
def qHb:Array ResultVar:=Tryz.f106.results
noncomputable def qhz (K:Ex→Fr→Option AV):=fun t3=>K (.exit 0) (frOf [(3,(.pv (.psl 21 (.leaf (.int .i32))) t3 none))])
def qky (n:Nat):Ex→Fr→Option AV:=qm 0 (qkx.cutb 0) (kSeq (evCP qkx (evLP qkx n) (sub qrU [1,1,1])) (kFnP qkx qHb))
def qnT (t3:List Int) (s9:List UInt8) (s10:Int) (s11:Int):Fr:=frOf [(3,(.pv (.psl 21 (.leaf (.int .i32))) t3 none)),(9,da s9),(10,dc s10),(11,dc s11)]
theorem quZ (K:Ex→Fr→Option AV):∀ (n:Nat) (t3:List Int) (s9:List UInt8) (s10:Int) (s11:Int),evLP qkx n (sub qrU [1,1,0,1,0,0]) K (qnT t3 s9 s10 s11)=qhS (qhz K) n t3 s9 s10 s11:=by
 intro n;induction n with
 | zero=>intros; rfl
 | succ n IH =>
 intro t3 s9 s10 s11;have ih:(fun t3 s9 s10 s11=>evLP qkx n (sub qrU [1,1,0,1,0,0]) K (qnT t3 s9 s10 s11))=qhS (qhz K) n:=by
  funext t3 s9 s10 s11;exact IH t3 s9 s10 s11
 show _=qdy (qhz K) (qhS (qhz K) n) n t3 s9 s10 s11;rw [← ih];kernel_rfl
theorem qnU (n:Nat) (t3:List Int):(qky n) (.exit 0) (frOf [(3,(.pv (.psl 21 (.leaf (.int .i32))) t3 none))])=qeN n t3:=by
 kernel_rfl
theorem qHc (n:Nat) (s0:List UInt8) (o0:Lab):evFnP qkx n qrU qHb [db s0 o0]=qqs n s0:=by
 unfold qqs;rw [show qhS (qeN n) n=(fun t3 s9 s10 s11=>evLP qkx n (sub qrU [1,1,0,1,0,0]) (qky n) (qnT t3 s9 s10 s11)) from by
  funext t3 s9 s10 s11;refine Eq.trans ?_ (quZ (qky n) n t3 s9 s10 s11).symm;rw [show (qhz (qky n))=(qeN n) from by
   funext t3;exact qnU n t3]
  all_goals kernel_rfl]
 kernel_rfl
theorem qmp:qf G Tryz.prog 106 s_z106:=by
 refine sQ (E:=qkx) (c:=qrU) rfl (fun w S hg=>qc) Tryz.func106 ?_;intro avs r h;unfold s_z106 at h;split at h
 ·obtain ⟨hp,rfl⟩:=yj h;obtain ⟨n,hn⟩:=qAk _ hp;exact ⟨n,_,(qHc n _ _).trans hn,.inl rfl⟩
 ·cases h
def qHd:EnvP:=eQ [] 6 (some [2]) nC nC nP
def qHe:Code:=cO Tryz.f134
def qJB:Array ResultVar:=Tryz.f134.results
theorem qHf (n:Nat) (c0:Int) (o0:Lab):evFnP qHd n qHe qJB [.dat (.int .i32) c0 o0]=qwz n c0:=by
 kernel_rfl
theorem qva:qf G Tryz.prog 134 s_z134:=by
 refine sQ (E:=qHd) (c:=qHe) rfl (fun w S hg=>qc) Tryz.func134 ?_;intro avs r h;unfold s_z134 at h;split at h <;> cases h
 obtain ⟨n,hn⟩:=qAl _;exact ⟨n,_,(qHf n _ _).trans hn,.inl rfl⟩
def qkz:EnvP:=eQ [(106,s_z106),(134,s_z134)] 24 (some [2]) (fun x=>if x=4 then some [3,4,9,10,11] else none) (fun x=>if x=0 then some [3] else if x=1 then some [3,4,9,10,11] else none) (fun x=>if x=8 then some (.psl 21 (.leaf (.int .i32))) else none)
def qrV:Code:=cO Tryz.f103
def qHg:Array ResultVar:=Tryz.f103.results
noncomputable def qvb (K:Ex→Fr→Option AV):=fun t3=>K (.exit 0) (frOf [(3,(.pv (.psl 21 (.leaf (.int .i32))) t3 none))])
def qkA (n:Nat):Ex→Fr→Option AV:=qm 0 (qkz.cutb 0) (kSeq (evCP qkz (evLP qkz n) (sub qrV [1,1,1,1])) (kFnP qkz qHg))
def qnV (t3:List Int) (s10:Int) (s11:Int):Fr:=frOf [(3,(.pv (.psl 21 (.leaf (.int .i32))) t3 none)),(4,(.fn 134 [])),(9,(.pval 3 [])),(10,dc s10),(11,dc s11)]
theorem qvc (K:Ex→Fr→Option AV):∀ (n:Nat) (t3:List Int) (s10:Int) (s11:Int),evLP qkz n (sub qrV [1,1,1,0,1,0,0]) K (qnV t3 s10 s11)=qhT (qvb K) n t3 s10 s11:=by
 intro n;induction n with
 | zero=>intros; rfl
 | succ n IH =>
 intro t3 s10 s11;have ih:(fun t3 s10 s11=>evLP qkz n (sub qrV [1,1,1,0,1,0,0]) K (qnV t3 s10 s11))=qhT (qvb K) n:=by
  funext t3 s10 s11;exact IH t3 s10 s11
 show _=qdz (qvb K) (qhT (qvb K) n) n t3 s10 s11;rw [← ih];kernel_rfl
theorem qnW (n:Nat) (t3:List Int):(qkA n) (.exit 0) (frOf [(3,(.pv (.psl 21 (.leaf (.int .i32))) t3 none))])=qeO n t3:=by
 kernel_rfl
theorem qHh (n:Nat) (s0:List UInt8) (o0:Lab):evFnP qkz n qrV qHg [db s0 o0]=qqt n s0:=by
 unfold qqt;rw [show qhT (qeO n) n=(fun t3 s10 s11=>evLP qkz n (sub qrV [1,1,1,0,1,0,0]) (qkA n) (qnV t3 s10 s11)) from by
  funext t3 s10 s11;refine Eq.trans ?_ (qvc (qkA n) n t3 s10 s11).symm;rw [show (qvb (qkA n))=(qeO n) from by
   funext t3;exact qnW n t3]
  all_goals kernel_rfl]
 kernel_rfl
theorem qvd:qf G Tryz.prog 103 s_z103:=by
 refine sQ (E:=qkz) (c:=qrV) rfl (fun w S hg=>(qb (qmp w S hg) (qb (qva w S hg) qc))) Tryz.func103 ?_;intro avs r h;unfold s_z103 at h;split at h
 ·obtain ⟨hp,rfl⟩:=yj h;obtain ⟨n,hn⟩:=qAm _ hp;exact ⟨n,_,(qHh n _ _).trans hn,.inl rfl⟩
 ·cases h
def qHi:EnvP:=eQ [] 10 (some [0]) nC nC nP
def qHj:Code:=cO Tryz.f161
def qJC:Array ResultVar:=Tryz.f161.results
theorem qHk (n:Nat)  : evFnP qHi n qHj qJC []=qBz n  := by
 kernel_rfl
theorem qve:qf G Tryz.prog 161 s_z161:=by
 refine sQ (E:=qHi) (c:=qHj) rfl (fun w S hg=>qc) Tryz.func161 ?_;intro avs r h;unfold s_z161 at h;split at h <;> cases h
 obtain ⟨n,hn⟩:=qAh;exact ⟨n,_,(qHk n ).trans hn,.inl rfl⟩
def qkB:EnvP:=eQ [(161,s_z161)] 18 (some [2]) (fun x=>if x=2 then some [0,5,6] else none) (fun x=>if x=0 then some [0] else if x=1 then some [0,5,6] else none) nP
def qrW:Code:=cO Tryz.f135
def qHl:Array ResultVar:=Tryz.f135.results
noncomputable def qkC (K:Ex→Fr→Option AV):=fun s2=>K .ret (frOf [(2,(.dat (.int .i32) s2 none))])
noncomputable def qhA (K:Ex→Fr→Option AV):=fun x0=>K (.exit 0) (frOf [(0,(di x0 none))])
def qkD (n:Nat):Ex→Fr→Option AV:=qm 0 (qkB.cutb 0) (kSeq (evCP qkB (evLP qkB n) (sub qrW [1,1])) (kFnP qkB qHl))
def qnX (x0:UInt8) (s5:List (UInt8×(Int×Unit))) (s6:Int):Fr:=frOf [(0,(di x0 none)),(5,(.dat (.arr 8 (.pair .byte (.pair (.int .i32) .unit))) s5 none)),(6,dc s6)]
theorem qvf (K:Ex→Fr→Option AV):∀ (n:Nat) (x0:UInt8) (s5:List (UInt8×(Int×Unit))) (s6:Int),evLP qkB n (sub qrW [1,0,1,0,0]) K (qnX x0 s5 s6)=qiS (qkC K) (qhA K) n x0 s5 s6:=by
 intro n;induction n with
 | zero=>intros; rfl
 | succ n IH =>
 intro x0 s5 s6;have ih:(fun x0 s5 s6=>evLP qkB n (sub qrW [1,0,1,0,0]) K (qnX x0 s5 s6))=qiS (qkC K) (qhA K) n:=by
  funext x0 s5 s6;exact IH x0 s5 s6
 show _=qqu (qkC K) (qhA K) (qiS (qkC K) (qhA K) n) n x0 s5 s6;rw [← ih];kernel_rfl
theorem qnY (n:Nat) (x0:UInt8):(qkD n) (.exit 0) (frOf [(0,(di x0 none))])=qgy n x0:=by
 kernel_rfl
theorem qHm (n:Nat) (x0:UInt8) (o0:Lab):evFnP qkB n qrW qHl [di x0 o0]=qqv n x0:=by
 unfold qqv;rw [show qiS qaI (qgy n) n=(fun x0 s5 s6=>evLP qkB n (sub qrW [1,0,1,0,0]) (qkD n) (qnX x0 s5 s6)) from by
  funext x0 s5 s6;refine Eq.trans ?_ (qvf (qkD n) n x0 s5 s6).symm;rw [show (qhA (qkD n))=(qgy n) from by
   funext x0;exact qnY n x0]
  all_goals kernel_rfl]
 kernel_rfl
theorem qvg:qf G Tryz.prog 135 s_z135:=by
 refine sQ (E:=qkB) (c:=qrW) rfl (fun w S hg=>(qb (qve w S hg) qc)) Tryz.func135 ?_;intro avs r h;unfold s_z135 at h;split at h <;> cases h
 obtain ⟨n,hn⟩:=qAn _;exact ⟨n,_,(qHm n _ _).trans hn,.inl rfl⟩
end
end Go.Av
