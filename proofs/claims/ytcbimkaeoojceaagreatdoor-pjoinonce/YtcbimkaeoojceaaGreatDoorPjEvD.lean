import Derived.Test.YtcbimkaeoojceaaGreatDoorPjEvC
import Derived.Test.YtcbimkaeoojceaaGreatDoorPjU
import Derived.Test.YtcbimkaeoojceaaGreatDoorProg
import Derived.KernelRfl
namespace Go.Av
set_option linter.unusedSimpArgs false
noncomputable section
open Go.Proofs
set_option maxRecDepth 100000
set_option linter.unusedVariables false
def E_z74:EnvP:=eQ [] 11 (some [13]) nC nC (fun x=>if x=7 then some (.osl 21 (.int .i32)) else if x=10 then some (.osl 21 (.int .i32)) else none)
def C_z74:Code:=cO Tryz.f74
def R_z74:Array ResultVar:=Tryz.f74.results
theorem qFP (n:Nat) (c0:Int) (o0:Lab) (e1:Int) (o1:Lab) (x2:List Int):evFnM E_z74 n C_z74 R_z74 [.dat (.int .i32) c0 o0,de e1 o1,.pbox (.osl 21 (.int .i32)) x2 none]=qBk n c0 e1 x2:=by
 kernel_rfl
theorem qwo:qjS G Tryz.prog 74 s_z74:=by
 refine qam G_stays (E:=E_z74) (fn:=Tryz.f74) (c:=C_z74) (qo rfl qbZ) (fun w S hg=>⟨⟨qf,fun f sp h=>qaJ f sp h w S⟩,qaL w S hg,(fun _ _ h=>by cases h),(fun f sp h=>qbj f sp h),(fun f it h=>qbk f it h),(fun t kt vt h=>qaK t kt vt h)⟩) follows Tryz.func74 (by kernel_rfl) (by kernel_rfl) (by kernel_rfl) ?_;intro avs r h;unfold s_z74 at h;split at h
 ·obtain ⟨hp,rfl⟩:=yj h;obtain ⟨n,hn⟩:=qCg _ _ _ hp;exact ⟨n,(qFP n _ _ _ _ _).trans hn⟩
 ·cases h
def qDP:EnvP:=eQ [] 19 (some [2]) nC (fun x=>if x=0 then some [] else none) nP
def qDQ:Code:=cO Tryz.f117
def qFQ:Array ResultVar:=Tryz.f117.results
theorem qDR (n:Nat) (c0:UInt8) (o0:Lab):evFnP qDP n qDQ qFQ [di c0 o0]=qub n c0:=by
 kernel_rfl
theorem qkq:ql G Tryz.prog 117 s_z117:=by
 refine sQ (E:=qDP) (c:=qDQ) rfl (fun w S hg=>qf) Tryz.func117 ?_;intro avs r h;unfold s_z117 at h;split at h <;> cases h
 obtain ⟨n,hn⟩:=qyg _;exact ⟨n,_,(qDR n _ _).trans hn,.inl rfl⟩
def qDS:EnvP:=eQ [] 6 (some [2]) nC nC nP
def qDT:Code:=cO Tryz.f131
def qFR:Array ResultVar:=Tryz.f131.results
theorem qDU (n:Nat) (c0:UInt8) (o0:Lab):evFnP qDS n qDT qFR [di c0 o0]=qud n c0:=by
 kernel_rfl
theorem qkr:ql G Tryz.prog 131 s_z131:=by
 refine sQ (E:=qDS) (c:=qDT) rfl (fun w S hg=>qf) Tryz.func131 ?_;intro avs r h;unfold s_z131 at h;split at h <;> cases h
 obtain ⟨n,hn⟩:=qyj _;exact ⟨n,_,(qDU n _ _).trans hn,.inl rfl⟩
def qDV:EnvP:=eQ [(131,s_z131)] 40 (some [4]) nC (fun x=>if x=0 then some [1] else none) nP
def qDW:Code:=cO Tryz.f132
def qFS:Array ResultVar:=Tryz.f132.results
theorem qDX (n:Nat) (first0:UInt8) (o0:Lab) (c1:UInt8) (o1:Lab):evFnP qDV n qDW qFS [di first0 o0,di c1 o1]=que n first0 c1:=by
 kernel_rfl
theorem qsA:ql G Tryz.prog 132 s_z132:=by
 refine sQ (E:=qDV) (c:=qDW) rfl (fun w S hg=>(qb (qkr w S hg) qf)) Tryz.func132 ?_;intro avs r h;unfold s_z132 at h;split at h <;> cases h
 obtain ⟨n,hn⟩:=qyh _ _;exact ⟨n,_,(qDX n _ _ _ _).trans hn,.inl rfl⟩
def qiK:EnvP:=eQ [(117,s_z117),(131,s_z131),(132,s_z132)] 45 (some [2]) (fun x=>if x=2 then some [0,3] else none) (fun x=>if x=0 then some [0,3] else if x=1 then some [0,3] else none) nP
def qpQ:Code:=cO Tryz.f116
def qDY:Array ResultVar:=Tryz.f116.results
def qgF (s0:List UInt8) (n3:Int):Fr:=frOf [(0,da s0),(3,dc n3)]
noncomputable def qgG (K:Ex→Fr→Option AV):=fun s0 n3=>K (.exit 0) (qgF s0 n3)
noncomputable def qiL (K:Ex→Fr→Option AV):=fun s2=>K .ret (frOf [(2,dc s2)])
def qiM (n:Nat):Ex→Fr→Option AV:=qw 0 (qiK.cutb 0) (kSeq (evCP qiK (evLP qiK n) (sub qpQ [1,1,1])) (kFnP qiK qDY))
theorem qsB (K:Ex→Fr→Option AV):∀ (n:Nat) (s0:List UInt8) (n3:Int),evLP qiK n (sub qpQ [1,1,0,0,0]) K (qgF s0 n3)=qfb (qiL K) (qgG K) n s0 n3:=by
 intro n;induction n with
 | zero=>intros; rfl
 | succ n IH =>
 intro s0 n3;have ih:(fun s0 n3=>evLP qiK n (sub qpQ [1,1,0,0,0]) K (qgF s0 n3))=qfb (qiL K) (qgG K) n:=by
  funext s0 n3;exact IH s0 n3
 show _=qbq (qiL K) (qgG K) (qfb (qiL K) (qgG K) n) n s0 n3;rw [← ih];kernel_rfl
theorem qlP (n:Nat) (s0:List UInt8) (n3:Int):(qiM n) (.exit 0) (qgF s0 n3)=qah n s0 n3:=by
 kernel_rfl
theorem qDZ (n:Nat) (s0:List UInt8) (o0:Lab):evFnP qiK n qpQ qDY [db s0 o0]=qoL n s0:=by
 unfold qoL;rw [show qfb qaD (qah n) n=(fun s0 n3=>evLP qiK n (sub qpQ [1,1,0,0,0]) (qiM n) (qgF s0 n3)) from by
  funext s0 n3;refine Eq.trans ?_ (qsB (qiM n) n s0 n3).symm;rw [show (qgG (qiM n))=(qah n) from by
   funext s0 n3;exact qlP n s0 n3]
  all_goals kernel_rfl]
 kernel_rfl
theorem qsC:ql G Tryz.prog 116 s_z116:=by
 refine sQ (E:=qiK) (c:=qpQ) rfl (fun w S hg=>(qb (qkq w S hg) (qb (qkr w S hg) (qb (qsA w S hg) qf)))) Tryz.func116 ?_;intro avs r h;unfold s_z116 at h;split at h
 ·obtain ⟨hp,rfl⟩:=yj h;obtain ⟨n,hn⟩:=qyi _ hp;exact ⟨n,_,(qDZ n _ _).trans hn,.inl rfl⟩
 ·cases h
def qEa:EnvP:=eQ [] 10 (some [2]) nC (fun x=>if x=0 then some [] else none) nP
def qEb:Code:=cO Tryz.f118
def qFT:Array ResultVar:=Tryz.f118.results
theorem qEc (n:Nat) (n0:Int) (o0:Lab):evFnP qEa n qEb qFT [de n0 o0]=quf n n0:=by
 kernel_rfl
theorem qsD:ql G Tryz.prog 118 s_z118:=by
 refine sQ (E:=qEa) (c:=qEb) rfl (fun w S hg=>qf) Tryz.func118 ?_;intro avs r h;unfold s_z118 at h;split at h <;> cases h
 obtain ⟨n,hn⟩:=qxR _;exact ⟨n,_,(qEc n _ _).trans hn,.inl rfl⟩
def E_z98:EnvP:=eQ [(116,s_z116),(117,s_z117),(118,s_z118)] 63 (some [2,3,4]) (fun x=>if x=12 then some [5,6,48,49,50] else none) (fun x=>if x=0 then some [0,5] else if x=1 then some [5,6] else if x=2 then some [5,6,48,49,50] else none) nP
def C_z98:Code:=cO Tryz.f98
def R_z98:Array ResultVar:=Tryz.f98.results
noncomputable def qks (K:Ex→Fr→Option AV):=fun n5 c6=>K (.exit 1) (frOf [(5,dc n5),(6,(.dat (.int .i32) c6 none))])
def qnF (n:Nat):Ex→Fr→Option AV:=qw 1 (E_z98.cutb 1) (kSeq (evCP E_z98 (evLP E_z98 n) (sub C_z98 [1,1,1,1,1,1])) (kFnP E_z98 R_z98))
def qsE (n5:Int) (c6:Int) (s48:List UInt8) (s49:Int) (s50:Int):Fr:=frOf [(5,dc n5),(6,(.dat (.int .i32) c6 none)),(48,da s48),(49,dc s49),(50,dc s50)]
theorem qsF (K:Ex→Fr→Option AV):∀ (n:Nat) (n5:Int) (c6:Int) (s48:List UInt8) (s49:Int) (s50:Int),evLP E_z98 n (sub C_z98 [1,1,1,1,1,0,1,0,0]) K (qsE n5 c6 s48 s49 s50)=qfc (qks K) n n5 c6 s48 s49 s50:=by
 intro n;induction n with
 | zero=>intros; rfl
 | succ n IH =>
 intro n5 c6 s48 s49 s50;have ih:(fun n5 c6 s48 s49 s50=>evLP E_z98 n (sub C_z98 [1,1,1,1,1,0,1,0,0]) K (qsE n5 c6 s48 s49 s50))=qfc (qks K) n:=by
  funext n5 c6 s48 s49 s50;exact IH n5 c6 s48 s49 s50
 show _=qcE (qks K) (qfc (qks K) n) n n5 c6 s48 s49 s50;rw [← ih];kernel_rfl
theorem qlQ (n:Nat) (n5:Int) (c6:Int):(qnF n) (.exit 1) (frOf [(5,dc n5),(6,(.dat (.int .i32) c6 none))])=qcF n n5 c6:=by
 kernel_rfl
theorem qFU (n:Nat) (s0:List UInt8) (o0:Lab):evFnP E_z98 n C_z98 R_z98 [db s0 o0]=qxz n s0:=by
 unfold qxz qfN qfM qdW qcG qbP;rw [show qfc (qcF n) n=(fun n5 c6 s48 s49 s50=>evLP E_z98 n (sub C_z98 [1,1,1,1,1,0,1,0,0]) (qnF n) (qsE n5 c6 s48 s49 s50)) from by
  funext n5 c6 s48 s49 s50;refine Eq.trans ?_ (qsF (qnF n) n n5 c6 s48 s49 s50).symm;rw [show (qks (qnF n))=(qcF n) from by
   funext n5 c6;exact qlQ n n5 c6]
  all_goals kernel_rfl]
 kernel_rfl
theorem qwp:ql G Tryz.prog 98 s_z98:=by
 refine sQ (E:=E_z98) (c:=C_z98) rfl (fun w S hg=>(qb (qsC w S hg) (qb (qkq w S hg) (qb (qsD w S hg) qf)))) Tryz.func98 ?_;intro avs r h;unfold s_z98 at h;split at h
 ·obtain ⟨hp,rfl⟩:=yj h;obtain ⟨n,hn⟩:=qCq _ hp;exact ⟨n,_,(qFU n _ _).trans hn,.inl rfl⟩
 ·cases h
def E_z73:EnvP:=⟨⟨tiOf tis,fnsOf [(98,s_z98)],cnsOf [],[],23,(fun x=>if x=0 then some [0,1,24] else none),(fun x=>if x=0 then some [24] else if x=1 then some [0,1,24] else none),some [24]⟩,fun _=>none,fun _=>none,fun _=>[],(fun x=>if x=74 then some s_z74 else none),fun _=>none,fun _=>none,fun _=>none⟩
def C_z73:Code:=cO Tryz.f73
def R_z73:Array ResultVar:=Tryz.f73.results
noncomputable def qkt (K:Ex→Fr→Option AV):=fun s24=>K (.exit 0) (frOf [(24,(.pbox (.osl 21 (.int .i32)) s24 none))])
def qnG (s0:List UInt8) (f1:List Int):Ex→Fr→Option AV:=qw 0 (E_z73.cutb 0) (kFnM E_z73 R_z73 [db s0 none,.fn 74 [.pbox (.osl 21 (.int .i32)) f1 none]])
def qsG (s0:List UInt8) (s24:List Int):Fr:=frOf [(0,da s0),(1,(.padr 24 [.clo 74 false])),(24,(.pbox (.osl 21 (.int .i32)) s24 none))]
theorem qlR (K:Ex→Fr→Option AV):∀ (n:Nat) (s0:List UInt8) (s24:List Int),evLP E_z73 n (sub C_z73 [0,0]) K (qsG s0 s24)=qbr (qkt K) n s0 s24:=by
 intro n;induction n with
 | zero=>intros; rfl
 | succ n IH =>
 intro s0 s24;have ih:(fun s0 s24=>evLP E_z73 n (sub C_z73 [0,0]) K (qsG s0 s24))=qbr (qkt K) n:=by
  funext s0 s24;exact IH s0 s24
 show _=qcH (qkt K) (qbr (qkt K) n) n s0 s24;rw [← ih];kernel_rfl
theorem qiN (s0:List UInt8) (f1:List Int) (n:Nat) (s24:List Int):(qnG s0 f1) (.exit 0) (frOf [(24,(.pbox (.osl 21 (.int .i32)) s24 none))])=qaT n s24:=by
 kernel_rfl
theorem qwq (n:Nat) (s0:List UInt8) (o0:Lab) (f1:List Int):evFnM E_z73 n C_z73 R_z73 [db s0 o0,.fn 74 [.pbox (.osl 21 (.int .i32)) f1 none]]=qjl n s0 f1:=by
 unfold qjl;rw [show qbr (qaT n) n=(fun s0 s24=>evLP E_z73 n (sub C_z73 [0,0]) (qnG s0 f1) (qsG s0 s24)) from by
  funext s0 s24;refine Eq.trans ?_ (qlR (qnG s0 f1) n s0 s24).symm;rw [show (qkt (qnG s0 f1))=(qaT n) from by
   funext s24;exact qiN s0 f1 n s24]
  all_goals kernel_rfl]
 kernel_rfl
theorem qwr:qjS G Tryz.prog 73 s_z73:=by
 refine qam G_stays (E:=E_z73) (fn:=Tryz.f73) (c:=C_z73) (qo rfl qbZ) (fun w S hg=>⟨⟨(qb (qwp w S hg) qf),fun f sp h=>qaJ f sp h w S⟩,qaL w S hg,(fun f sp h=>(qcW (qwo w S hg) qfR) f sp h),(fun _ _ h=>by cases h),(fun _ _ h=>by cases h),(fun t kt vt h=>qaK t kt vt h)⟩) follows Tryz.func73 (by kernel_rfl) (by kernel_rfl) (by kernel_rfl) ?_;intro avs r h;unfold s_z73 at h;split at h
 ·obtain ⟨hp,rfl⟩:=yj h;obtain ⟨n,hn⟩:=qqv _ _ hp;exact ⟨n,(qwq n _ _ _).trans hn⟩
 ·cases h
def E_z51:EnvP:=⟨⟨tiOf tis,fnsOf [],cnsOf [],[],8,(fun _=>none),(fun _=>none),some [2]⟩,(fun x=>if x=3 then some (.osl 21 (.int .i32)) else none),fun _=>none,fun _=>[],(fun x=>if x=73 then some s_z73 else none),fun _=>none,fun _=>none,fun _=>none⟩
def C_z51:Code:=cO Tryz.f51
def R_z51:Array ResultVar:=Tryz.f51.results
theorem qFV (n:Nat) (s0:List UInt8) (o0:Lab):evFnP E_z51 n C_z51 R_z51 [db s0 o0]=qBl n s0:=by
 kernel_rfl
theorem qnH:ql G Tryz.prog 51 s_z51:=by
 refine qK G_stays (E:=E_z51) (fn:=Tryz.f51) (c:=C_z51) (qo rfl qbZ) (fun w S hg=>⟨⟨qf,fun f sp h=>qaJ f sp h w S⟩,qaL w S hg,(fun f sp h=>(qcW (qwr w S hg) qfR) f sp h),(fun f sp h=>qbj f sp h),(fun f it h=>qbk f it h),(fun t kt vt h=>qaK t kt vt h)⟩) follows Tryz.func51 (by kernel_rfl) (by kernel_rfl) (by kernel_rfl) ?_;intro avs r h;unfold s_z51 at h;split at h
 ·obtain ⟨hp,rfl⟩:=yj h;obtain ⟨n,hn⟩:=qCh _ hp;exact ⟨n,_,(qFV n _ _).trans hn,.inl rfl⟩
 ·cases h
def E_z72:EnvP:=eQ [] 23 (some [2]) (fun x=>if x=3 then some [3,9,10,11] else none) (fun x=>if x=0 then some [3] else if x=1 then some [3,9,10,11] else none) (fun x=>if x=8 then some (.psl 21 (.leaf (.int .i32))) else none)
def C_z72:Code:=cO Tryz.f72
def R_z72:Array ResultVar:=Tryz.f72.results
noncomputable def qku (K:Ex→Fr→Option AV):=fun t3=>K (.exit 0) (frOf [(3,(.pv (.psl 21 (.leaf (.int .i32))) t3 none))])
def qnI (n:Nat):Ex→Fr→Option AV:=qw 0 (E_z72.cutb 0) (kSeq (evCP E_z72 (evLP E_z72 n) (sub C_z72 [1,1,1])) (kFnP E_z72 R_z72))
def qsH (t3:List Int) (s9:List UInt8) (s10:Int) (s11:Int):Fr:=frOf [(3,(.pv (.psl 21 (.leaf (.int .i32))) t3 none)),(9,da s9),(10,dc s10),(11,dc s11)]
theorem qws (K:Ex→Fr→Option AV):∀ (n:Nat) (t3:List Int) (s9:List UInt8) (s10:Int) (s11:Int),evLP E_z72 n (sub C_z72 [1,1,0,1,0,0]) K (qsH t3 s9 s10 s11)=qml (qku K) n t3 s9 s10 s11:=by
 intro n;induction n with
 | zero=>intros; rfl
 | succ n IH =>
 intro t3 s9 s10 s11;have ih:(fun t3 s9 s10 s11=>evLP E_z72 n (sub C_z72 [1,1,0,1,0,0]) K (qsH t3 s9 s10 s11))=qml (qku K) n:=by
  funext t3 s9 s10 s11;exact IH t3 s9 s10 s11
 show _=qey (qku K) (qml (qku K) n) n t3 s9 s10 s11;rw [← ih];kernel_rfl
theorem qpR (n:Nat) (t3:List Int):(qnI n) (.exit 0) (frOf [(3,(.pv (.psl 21 (.leaf (.int .i32))) t3 none))])=qgV n t3:=by
 kernel_rfl
theorem qFW (n:Nat) (s0:List UInt8) (o0:Lab):evFnP E_z72 n C_z72 R_z72 [db s0 o0]=qxA n s0:=by
 unfold qxA;rw [show qml (qgV n) n=(fun t3 s9 s10 s11=>evLP E_z72 n (sub C_z72 [1,1,0,1,0,0]) (qnI n) (qsH t3 s9 s10 s11)) from by
  funext t3 s9 s10 s11;refine Eq.trans ?_ (qws (qnI n) n t3 s9 s10 s11).symm;rw [show (qku (qnI n))=(qgV n) from by
   funext t3;exact qpR n t3]
  all_goals kernel_rfl]
 kernel_rfl
theorem qnJ:ql G Tryz.prog 72 s_z72:=by
 refine sQ (E:=E_z72) (c:=C_z72) rfl (fun w S hg=>qf) Tryz.func72 ?_;intro avs r h;unfold s_z72 at h;split at h
 ·obtain ⟨hp,rfl⟩:=yj h;obtain ⟨n,hn⟩:=qBX _ hp;exact ⟨n,_,(qFW n _ _).trans hn,.inl rfl⟩
 ·cases h
end
end Go.Av
