import Derived.Test.YtcbimkaeoojceaaGreatDoorPjEvB
import Derived.Test.YtcbimkaeoojceaaGreatDoorPjU
import Derived.Test.YtcbimkaeoojceaaGreatDoorProg
import Derived.KernelRfl
namespace Go.Av
set_option linter.unusedSimpArgs false
set_option linter.unusedVariables false
noncomputable section
open Go.Proofs
set_option maxRecDepth 100000
def E_z68:EnvP:=⟨⟨tiOf tis,fnsOf [],cnsOf [],[],8,(fun _=>none),(fun _=>none),some [2]⟩,(fun x=>if x=3 then some (.osl 5 .byte) else none),fun _=>none,fun _=>[],(fun x=>if x=93 then some s_z93 else none),fun _=>none,fun _=>none,fun _=>none⟩
def C_z68:Code:=cO Tryz.f68
def R_z68:Array ResultVar:=Tryz.f68.results
theorem qPU (n:Nat) (s0:LU) (o0:Lab):evFnP E_z68 n C_z68 R_z68 [db s0 o0]=qJF n s0:=by
 kernel_rfl
theorem qCD:qf G Tryz.prog 68 s_z68:=by
 refine qM G_stays (E:=E_z68) (fn:=Tryz.f68) (c:=C_z68) (qo rfl qcq) (fun w S hg=>⟨⟨qd,fun f sp h=>qaN f sp h w S⟩,qaU w S hg,(fun f sp h=>(qea (qCC w S hg) qhF) f sp h),(fun f sp h=>qbz f sp h),(fun f it h=>qbA f it h),(fun t kt vt h=>qaP t kt vt h)⟩) follows Tryz.func68 (by kernel_rfl) (by kernel_rfl) (by kernel_rfl) ?_;intro avs r h;unfold s_z68 at h;split at h
 ·obtain ⟨hp,rfl⟩:=yj h;obtain ⟨n,hn⟩:=qIR _ hp;exact ⟨n,_,(qPU n _ _).trans hn,.inl rfl⟩
 ·cases h
def E_z49:EnvP:=eQ [(68,s_z68)] 10 (some [2]) nC nC nP
def C_z49:Code:=cO Tryz.f49
def R_z49:Array ResultVar:=Tryz.f49.results
theorem qPV (n:Nat) (p0:LU×(Int×(Bool×(LU×Unit)))) (o0:Lab):evFnP E_z49 n C_z49 R_z49 [.dat (.pair (.sl .byte) (.pair (.int .i64) (.pair .bool (.pair (.sl .byte) .unit)))) p0 o0]=qJG n p0:=by
 kernel_rfl
theorem qCE:qf G Tryz.prog 49 s_z49:=by
 refine sQ (E:=E_z49) (c:=C_z49) rfl (fun w S hg=>(qa (qCD w S hg) qd)) Tryz.func49 ?_;intro avs r h;unfold s_z49 at h;split at h
 ·obtain ⟨hp,rfl⟩:=yj h;obtain ⟨n,hn⟩:=qIS _ hp;exact ⟨n,_,(qPV n _ _).trans hn,.inl rfl⟩
 ·cases h
def E_z74:EnvP:=eQ [] 11 (some [13]) nC nC (fun x=>if x=7 then some (.osl 21 (.int .i32)) else if x=10 then some (.osl 21 (.int .i32)) else none)
def C_z74:Code:=cO Tryz.f74
def R_z74:Array ResultVar:=Tryz.f74.results
theorem qPW (n:Nat) (c0:Int) (o0:Lab) (e1:Int) (o1:Lab) (x2:LI):evFnM E_z74 n C_z74 R_z74 [dm c0 o0,de e1 o1,.pbox (.osl 21 (.int .i32)) x2 none]=qJH n c0 e1 x2:=by
 kernel_rfl
theorem qCF:qmx G Tryz.prog 74 s_z74:=by
 refine qaF G_stays (E:=E_z74) (fn:=Tryz.f74) (c:=C_z74) (qo rfl qcq) (fun w S hg=>⟨⟨qd,fun f sp h=>qaN f sp h w S⟩,qaU w S hg,(fun _ _ h=>by cases h),(fun f sp h=>qbz f sp h),(fun f it h=>qbA f it h),(fun t kt vt h=>qaP t kt vt h)⟩) follows Tryz.func74 (by kernel_rfl) (by kernel_rfl) (by kernel_rfl) ?_;intro avs r h;unfold s_z74 at h;split at h
 ·obtain ⟨hp,rfl⟩:=yj h;obtain ⟨n,hn⟩:=qLD _ _ _ hp;exact ⟨n,(qPW n _ _ _ _ _).trans hn⟩
 ·cases h
def qNm:EnvP:=eQ [] 19 (some [2]) nC (fun x=>if x=0 then some [] else none) nP
def qNn:Code:=cO Tryz.f117
def qPX:Array ResultVar:=Tryz.f117.results
theorem qNo (n:Nat) (c0:UInt8) (o0:Lab):evFnP qNm n qNn qPX [dp c0 o0]=qzJ n c0:=by
 kernel_rfl
theorem qmX:qf G Tryz.prog 117 s_z117:=by
 refine sQ (E:=qNm) (c:=qNn) rfl (fun w S hg=>qd) Tryz.func117 ?_;intro avs r h;unfold s_z117 at h;split at h <;> cases h
 obtain ⟨n,hn⟩:=qFN _;exact ⟨n,_,(qNo n _ _).trans hn,.inl rfl⟩
def qNp:EnvP:=eQ [] 6 (some [2]) nC nC nP
def qNq:Code:=cO Tryz.f131
def qPY:Array ResultVar:=Tryz.f131.results
theorem qNr (n:Nat) (c0:UInt8) (o0:Lab):evFnP qNp n qNq qPY [dp c0 o0]=qzL n c0:=by
 kernel_rfl
theorem qmY:qf G Tryz.prog 131 s_z131:=by
 refine sQ (E:=qNp) (c:=qNq) rfl (fun w S hg=>qd) Tryz.func131 ?_;intro avs r h;unfold s_z131 at h;split at h <;> cases h
 obtain ⟨n,hn⟩:=qFQ _;exact ⟨n,_,(qNr n _ _).trans hn,.inl rfl⟩
def qNs:EnvP:=eQ [(131,s_z131)] 40 (some [4]) nC (fun x=>if x=0 then some [1] else none) nP
def qNt:Code:=cO Tryz.f132
def qPZ:Array ResultVar:=Tryz.f132.results
theorem qNu (n:Nat) (first0:UInt8) (o0:Lab) (c1:UInt8) (o1:Lab):evFnP qNs n qNt qPZ [dp first0 o0,dp c1 o1]=qzM n first0 c1:=by
 kernel_rfl
theorem qxE:qf G Tryz.prog 132 s_z132:=by
 refine sQ (E:=qNs) (c:=qNt) rfl (fun w S hg=>(qa (qmY w S hg) qd)) Tryz.func132 ?_;intro avs r h;unfold s_z132 at h;split at h <;> cases h
 obtain ⟨n,hn⟩:=qFO _ _;exact ⟨n,_,(qNu n _ _ _ _).trans hn,.inl rfl⟩
def qkZ:EnvP:=eQ [(117,s_z117),(131,s_z131),(132,s_z132)] 45 (some [2]) (fun x=>if x=2 then some [0,3] else none) (fun x=>if x=0 then some [0,3] else if x=1 then some [0,3] else none) nP
def qup:Code:=cO Tryz.f116
def qNv:Array ResultVar:=Tryz.f116.results
def qiu (s0:LU) (n3:Int):Fr:=frOf [(0,da s0),(3,dc n3)]
noncomputable def qiv (K:Ex→Fr→OA):=fun s0 n3=>K (.exit 0) (qiu s0 n3)
noncomputable def qla (K:Ex→Fr→OA):=fun s2=>K .ret (frOf [(2,dc s2)])
def qlb (n:Nat):Ex→Fr→OA:=qw 0 (qkZ.cutb 0) (kSeq (evCP qkZ (evLP qkZ n) (sub qup [1,1,1])) (kFnP qkZ qNv))
theorem qxF (K:Ex→Fr→OA):∀ (n:Nat) (s0:LU) (n3:Int),evLP qkZ n (sub qup [1,1,0,0,0]) K (qiu s0 n3)=qgI (qla K) (qiv K) n s0 n3:=by
 intro n;induction n with
 | zero=>intros; rfl
 | succ n IH =>
 intro s0 n3;have ih:(fun s0 n3=>evLP qkZ n (sub qup [1,1,0,0,0]) K (qiu s0 n3))=qgI (qla K) (qiv K) n:=by
  funext s0 n3;exact IH s0 n3
 show _=qbZ (qla K) (qiv K) (qgI (qla K) (qiv K) n) n s0 n3;rw [← ih];kernel_rfl
theorem qoY (n:Nat) (s0:LU) (n3:Int):(qlb n) (.exit 0) (qiu s0 n3)=qaz n s0 n3:=by
 kernel_rfl
theorem qNw (n:Nat) (s0:LU) (o0:Lab):evFnP qkZ n qup qNv [db s0 o0]=qsT n s0:=by
 unfold qsT;rw [show qgI qbe (qaz n) n=(fun s0 n3=>evLP qkZ n (sub qup [1,1,0,0,0]) (qlb n) (qiu s0 n3)) from by
  funext s0 n3;refine Eq.trans ?_ (qxF (qlb n) n s0 n3).symm;rw [show (qiv (qlb n))=(qaz n) from by
   funext s0 n3;exact qoY n s0 n3]
  all_goals kernel_rfl]
 kernel_rfl
theorem qxG:qf G Tryz.prog 116 s_z116:=by
 refine sQ (E:=qkZ) (c:=qup) rfl (fun w S hg=>(qa (qmX w S hg) (qa (qmY w S hg) (qa (qxE w S hg) qd)))) Tryz.func116 ?_;intro avs r h;unfold s_z116 at h;split at h
 ·obtain ⟨hp,rfl⟩:=yj h;obtain ⟨n,hn⟩:=qFP _ hp;exact ⟨n,_,(qNw n _ _).trans hn,.inl rfl⟩
 ·cases h
def qNx:EnvP:=eQ [] 10 (some [2]) nC (fun x=>if x=0 then some [] else none) nP
def qNy:Code:=cO Tryz.f118
def qQa:Array ResultVar:=Tryz.f118.results
theorem qNz (n:Nat) (n0:Int) (o0:Lab):evFnP qNx n qNy qQa [de n0 o0]=qzN n n0:=by
 kernel_rfl
theorem qxH:qf G Tryz.prog 118 s_z118:=by
 refine sQ (E:=qNx) (c:=qNy) rfl (fun w S hg=>qd) Tryz.func118 ?_;intro avs r h;unfold s_z118 at h;split at h <;> cases h
 obtain ⟨n,hn⟩:=qFt _;exact ⟨n,_,(qNz n _ _).trans hn,.inl rfl⟩
def E_z98:EnvP:=eQ [(116,s_z116),(117,s_z117),(118,s_z118)] 63 (some [2,3,4]) (fun x=>if x=12 then some [5,6,48,49,50] else none) (fun x=>if x=0 then some [0,5] else if x=1 then some [5,6] else if x=2 then some [5,6,48,49,50] else none) nP
def C_z98:Code:=cO Tryz.f98
def R_z98:Array ResultVar:=Tryz.f98.results
noncomputable def qmZ (K:Ex→Fr→OA):=fun n5 c6=>K (.exit 1) (frOf [(5,dc n5),(6,di c6)])
def qrg (n:Nat):Ex→Fr→OA:=qw 1 (E_z98.cutb 1) (kSeq (evCP E_z98 (evLP E_z98 n) (sub C_z98 [1,1,1,1,1,1])) (kFnP E_z98 R_z98))
def qxI (n5:Int) (c6:Int) (s48:LU) (s49:Int) (s50:Int):Fr:=frOf [(5,dc n5),(6,di c6),(48,da s48),(49,dc s49),(50,dc s50)]
theorem qxJ (K:Ex→Fr→OA):∀ (n:Nat) (n5:Int) (c6:Int) (s48:LU) (s49:Int) (s50:Int),evLP E_z98 n (sub C_z98 [1,1,1,1,1,0,1,0,0]) K (qxI n5 c6 s48 s49 s50)=qgJ (qmZ K) n n5 c6 s48 s49 s50:=by
 intro n;induction n with
 | zero=>intros; rfl
 | succ n IH =>
 intro n5 c6 s48 s49 s50;have ih:(fun n5 c6 s48 s49 s50=>evLP E_z98 n (sub C_z98 [1,1,1,1,1,0,1,0,0]) K (qxI n5 c6 s48 s49 s50))=qgJ (qmZ K) n:=by
  funext n5 c6 s48 s49 s50;exact IH n5 c6 s48 s49 s50
 show _=qdC (qmZ K) (qgJ (qmZ K) n) n n5 c6 s48 s49 s50;rw [← ih];kernel_rfl
theorem qoZ (n:Nat) (n5:Int) (c6:Int):(qrg n) (.exit 1) (frOf [(5,dc n5),(6,di c6)])=qdD n n5 c6:=by
 kernel_rfl
theorem qQb (n:Nat) (s0:LU) (o0:Lab):evFnP E_z98 n C_z98 R_z98 [db s0 o0]=qEK n s0:=by
 unfold qEK qhA qhz qfe qdE qcH;rw [show qgJ (qdD n) n=(fun n5 c6 s48 s49 s50=>evLP E_z98 n (sub C_z98 [1,1,1,1,1,0,1,0,0]) (qrg n) (qxI n5 c6 s48 s49 s50)) from by
  funext n5 c6 s48 s49 s50;refine Eq.trans ?_ (qxJ (qrg n) n n5 c6 s48 s49 s50).symm;rw [show (qmZ (qrg n))=(qdD n) from by
   funext n5 c6;exact qoZ n n5 c6]
  all_goals kernel_rfl]
 kernel_rfl
theorem qCG:qf G Tryz.prog 98 s_z98:=by
 refine sQ (E:=E_z98) (c:=C_z98) rfl (fun w S hg=>(qa (qxG w S hg) (qa (qmX w S hg) (qa (qxH w S hg) qd)))) Tryz.func98 ?_;intro avs r h;unfold s_z98 at h;split at h
 ·obtain ⟨hp,rfl⟩:=yj h;obtain ⟨n,hn⟩:=qLN _ hp;exact ⟨n,_,(qQb n _ _).trans hn,.inl rfl⟩
 ·cases h
def E_z73:EnvP:=⟨⟨tiOf tis,fnsOf [(98,s_z98)],cnsOf [],[],23,(fun x=>if x=0 then some [0,1,24] else none),(fun x=>if x=0 then some [24] else if x=1 then some [0,1,24] else none),some [24]⟩,fun _=>none,fun _=>none,fun _=>[],(fun x=>if x=74 then some s_z74 else none),fun _=>none,fun _=>none,fun _=>none⟩
def C_z73:Code:=cO Tryz.f73
def R_z73:Array ResultVar:=Tryz.f73.results
noncomputable def qna (K:Ex→Fr→OA):=fun s24=>K (.exit 0) (frOf [(24,(.pbox (.osl 21 (.int .i32)) s24 none))])
def qrh (s0:LU) (f1:LI):Ex→Fr→OA:=qw 0 (E_z73.cutb 0) (kFnM E_z73 R_z73 [db s0 none,.fn 74 [.pbox (.osl 21 (.int .i32)) f1 none]])
def qxK (s0:LU) (s24:LI):Fr:=frOf [(0,da s0),(1,(.padr 24 [.clo 74 false])),(24,(.pbox (.osl 21 (.int .i32)) s24 none))]
theorem qpa (K:Ex→Fr→OA):∀ (n:Nat) (s0:LU) (s24:LI),evLP E_z73 n (sub C_z73 [0,0]) K (qxK s0 s24)=qca (qna K) n s0 s24:=by
 intro n;induction n with
 | zero=>intros; rfl
 | succ n IH =>
 intro s0 s24;have ih:(fun s0 s24=>evLP E_z73 n (sub C_z73 [0,0]) K (qxK s0 s24))=qca (qna K) n:=by
  funext s0 s24;exact IH s0 s24
 show _=qdF (qna K) (qca (qna K) n) n s0 s24;rw [← ih];kernel_rfl
theorem qlc (s0:LU) (f1:LI) (n:Nat) (s24:LI):(qrh s0 f1) (.exit 0) (frOf [(24,(.pbox (.osl 21 (.int .i32)) s24 none))])=qbw n s24:=by
 kernel_rfl
theorem qCH (n:Nat) (s0:LU) (o0:Lab) (f1:LI):evFnM E_z73 n C_z73 R_z73 [db s0 o0,.fn 74 [.pbox (.osl 21 (.int .i32)) f1 none]]=qlz n s0 f1:=by
 unfold qlz;rw [show qca (qbw n) n=(fun s0 s24=>evLP E_z73 n (sub C_z73 [0,0]) (qrh s0 f1) (qxK s0 s24)) from by
  funext s0 s24;refine Eq.trans ?_ (qpa (qrh s0 f1) n s0 s24).symm;rw [show (qna (qrh s0 f1))=(qbw n) from by
   funext s24;exact qlc s0 f1 n s24]
  all_goals kernel_rfl]
 kernel_rfl
theorem qCI:qmx G Tryz.prog 73 s_z73:=by
 refine qaF G_stays (E:=E_z73) (fn:=Tryz.f73) (c:=C_z73) (qo rfl qcq) (fun w S hg=>⟨⟨(qa (qCG w S hg) qd),fun f sp h=>qaN f sp h w S⟩,qaU w S hg,(fun f sp h=>(qea (qCF w S hg) qhF) f sp h),(fun _ _ h=>by cases h),(fun _ _ h=>by cases h),(fun t kt vt h=>qaP t kt vt h)⟩) follows Tryz.func73 (by kernel_rfl) (by kernel_rfl) (by kernel_rfl) ?_;intro avs r h;unfold s_z73 at h;split at h
 ·obtain ⟨hp,rfl⟩:=yj h;obtain ⟨n,hn⟩:=qvt _ _ hp;exact ⟨n,(qCH n _ _ _).trans hn⟩
 ·cases h
def E_z51:EnvP:=⟨⟨tiOf tis,fnsOf [],cnsOf [],[],8,(fun _=>none),(fun _=>none),some [2]⟩,(fun x=>if x=3 then some (.osl 21 (.int .i32)) else none),fun _=>none,fun _=>[],(fun x=>if x=73 then some s_z73 else none),fun _=>none,fun _=>none,fun _=>none⟩
def C_z51:Code:=cO Tryz.f51
def R_z51:Array ResultVar:=Tryz.f51.results
theorem qQc (n:Nat) (s0:LU) (o0:Lab):evFnP E_z51 n C_z51 R_z51 [db s0 o0]=qJI n s0:=by
 kernel_rfl
theorem qri:qf G Tryz.prog 51 s_z51:=by
 refine qM G_stays (E:=E_z51) (fn:=Tryz.f51) (c:=C_z51) (qo rfl qcq) (fun w S hg=>⟨⟨qd,fun f sp h=>qaN f sp h w S⟩,qaU w S hg,(fun f sp h=>(qea (qCI w S hg) qhF) f sp h),(fun f sp h=>qbz f sp h),(fun f it h=>qbA f it h),(fun t kt vt h=>qaP t kt vt h)⟩) follows Tryz.func51 (by kernel_rfl) (by kernel_rfl) (by kernel_rfl) ?_;intro avs r h;unfold s_z51 at h;split at h
 ·obtain ⟨hp,rfl⟩:=yj h;obtain ⟨n,hn⟩:=qLE _ hp;exact ⟨n,_,(qQc n _ _).trans hn,.inl rfl⟩
 ·cases h
def E_z72:EnvP:=eQ [] 23 (some [2]) (fun x=>if x=3 then some [3,9,10,11] else none) (fun x=>if x=0 then some [3] else if x=1 then some [3,9,10,11] else none) (fun x=>if x=8 then some (.psl 21 (.leaf (.int .i32))) else none)
def C_z72:Code:=cO Tryz.f72
def R_z72:Array ResultVar:=Tryz.f72.results
noncomputable def qnb (K:Ex→Fr→OA):=fun t3=>K (.exit 0) (frOf [(3,(.pv (.psl 21 (.leaf (.int .i32))) t3 none))])
def qrj (n:Nat):Ex→Fr→OA:=qw 0 (E_z72.cutb 0) (kSeq (evCP E_z72 (evLP E_z72 n) (sub C_z72 [1,1,1])) (kFnP E_z72 R_z72))
def qxL (t3:LI) (s9:LU) (s10:Int) (s11:Int):Fr:=frOf [(3,(.pv (.psl 21 (.leaf (.int .i32))) t3 none)),(9,da s9),(10,dc s10),(11,dc s11)]
theorem qCJ (K:Ex→Fr→OA):∀ (n:Nat) (t3:LI) (s9:LU) (s10:Int) (s11:Int),evLP E_z72 n (sub C_z72 [1,1,0,1,0,0]) K (qxL t3 s9 s10 s11)=qpz (qnb K) n t3 s9 s10 s11:=by
 intro n;induction n with
 | zero=>intros; rfl
 | succ n IH =>
 intro t3 s9 s10 s11;have ih:(fun t3 s9 s10 s11=>evLP E_z72 n (sub C_z72 [1,1,0,1,0,0]) K (qxL t3 s9 s10 s11))=qpz (qnb K) n:=by
  funext t3 s9 s10 s11;exact IH t3 s9 s10 s11
 show _=qfQ (qnb K) (qpz (qnb K) n) n t3 s9 s10 s11;rw [← ih];kernel_rfl
theorem quq (n:Nat) (t3:LI):(qrj n) (.exit 0) (frOf [(3,(.pv (.psl 21 (.leaf (.int .i32))) t3 none))])=qiL n t3:=by
 kernel_rfl
theorem qQd (n:Nat) (s0:LU) (o0:Lab):evFnP E_z72 n C_z72 R_z72 [db s0 o0]=qEL n s0:=by
 unfold qEL;rw [show qpz (qiL n) n=(fun t3 s9 s10 s11=>evLP E_z72 n (sub C_z72 [1,1,0,1,0,0]) (qrj n) (qxL t3 s9 s10 s11)) from by
  funext t3 s9 s10 s11;refine Eq.trans ?_ (qCJ (qrj n) n t3 s9 s10 s11).symm;rw [show (qnb (qrj n))=(qiL n) from by
   funext t3;exact quq n t3]
  all_goals kernel_rfl]
 kernel_rfl
theorem qrk:qf G Tryz.prog 72 s_z72:=by
 refine sQ (E:=E_z72) (c:=C_z72) rfl (fun w S hg=>qd) Tryz.func72 ?_;intro avs r h;unfold s_z72 at h;split at h
 ·obtain ⟨hp,rfl⟩:=yj h;obtain ⟨n,hn⟩:=qLu _ hp;exact ⟨n,_,(qQd n _ _).trans hn,.inl rfl⟩
 ·cases h
def E_z95:EnvP:=eQ [] 6 (some [2]) nC nC nP
def C_z95:Code:=cO Tryz.f95
def R_z95:Array ResultVar:=Tryz.f95.results
theorem qQe (n:Nat) (c0:Int) (o0:Lab):evFnP E_z95 n C_z95 R_z95 [dm c0 o0]=qJJ n c0:=by
 kernel_rfl
theorem qCK:qf G Tryz.prog 95 s_z95:=by
 refine sQ (E:=E_z95) (c:=C_z95) rfl (fun w S hg=>qd) Tryz.func95 ?_;intro avs r h;unfold s_z95 at h;split at h <;> cases h
 obtain ⟨n,hn⟩:=qLv _;exact ⟨n,_,(qQe n _ _).trans hn,.inl rfl⟩
def E_z69:EnvP:=eQ [(72,s_z72),(95,s_z95)] 24 (some [2]) (fun x=>if x=4 then some [3,4,9,10,11] else none) (fun x=>if x=0 then some [3] else if x=1 then some [3,4,9,10,11] else none) (fun x=>if x=8 then some (.psl 21 (.leaf (.int .i32))) else none)
def C_z69:Code:=cO Tryz.f69
def R_z69:Array ResultVar:=Tryz.f69.results
noncomputable def X_z95 (K:Ex→Fr→OA):=fun t3=>K (.exit 0) (frOf [(3,(.pv (.psl 21 (.leaf (.int .i32))) t3 none))])
def qrl (n:Nat):Ex→Fr→OA:=qw 0 (E_z69.cutb 0) (kSeq (evCP E_z69 (evLP E_z69 n) (sub C_z69 [1,1,1,1])) (kFnP E_z69 R_z69))
def qxM (t3:LI) (s10:Int) (s11:Int):Fr:=frOf [(3,(.pv (.psl 21 (.leaf (.int .i32))) t3 none)),(4,(.fn 95 [])),(9,(.pval 3 [])),(10,dc s10),(11,dc s11)]
theorem qCL (K:Ex→Fr→OA):∀ (n:Nat) (t3:LI) (s10:Int) (s11:Int),evLP E_z69 n (sub C_z69 [1,1,1,0,1,0,0]) K (qxM t3 s10 s11)=qpA (X_z95 K) n t3 s10 s11:=by
 intro n;induction n with
 | zero=>intros; rfl
 | succ n IH =>
 intro t3 s10 s11;have ih:(fun t3 s10 s11=>evLP E_z69 n (sub C_z69 [1,1,1,0,1,0,0]) K (qxM t3 s10 s11))=qpA (X_z95 K) n:=by
  funext t3 s10 s11;exact IH t3 s10 s11
 show _=qfR (X_z95 K) (qpA (X_z95 K) n) n t3 s10 s11;rw [← ih];kernel_rfl
theorem qur (n:Nat) (t3:LI):(qrl n) (.exit 0) (frOf [(3,(.pv (.psl 21 (.leaf (.int .i32))) t3 none))])=qiM n t3:=by
 kernel_rfl
theorem qQf (n:Nat) (s0:LU) (o0:Lab):evFnP E_z69 n C_z69 R_z69 [db s0 o0]=qEM n s0:=by
 unfold qEM;rw [show qpA (qiM n) n=(fun t3 s10 s11=>evLP E_z69 n (sub C_z69 [1,1,1,0,1,0,0]) (qrl n) (qxM t3 s10 s11)) from by
  funext t3 s10 s11;refine Eq.trans ?_ (qCL (qrl n) n t3 s10 s11).symm;rw [show (X_z95 (qrl n))=(qiM n) from by
   funext t3;exact qur n t3]
  all_goals kernel_rfl]
 kernel_rfl
theorem qCM:qf G Tryz.prog 69 s_z69:=by
 refine sQ (E:=E_z69) (c:=C_z69) rfl (fun w S hg=>(qa (qrk w S hg) (qa (qCK w S hg) qd))) Tryz.func69 ?_;intro avs r h;unfold s_z69 at h;split at h
 ·obtain ⟨hp,rfl⟩:=yj h;obtain ⟨n,hn⟩:=qLw _ hp;exact ⟨n,_,(qQf n _ _).trans hn,.inl rfl⟩
 ·cases h
def qNA:EnvP:=eQ [] 10 (some [0]) nC nC nP
def qNB:Code:=cO Tryz.f114
def qQg:Array ResultVar:=Tryz.f114.results
theorem qNC (n:Nat)  : evFnP qNA n qNB qQg []=qGM n  := by
 kernel_rfl
theorem qxN:qf G Tryz.prog 114 s_z114:=by
 refine sQ (E:=qNA) (c:=qNB) rfl (fun w S hg=>qd) Tryz.func114 ?_;intro avs r h;unfold s_z114 at h;split at h <;> cases h
 obtain ⟨n,hn⟩:=qFu;exact ⟨n,_,(qNC n ).trans hn,.inl rfl⟩
def E_z96:EnvP:=eQ [(114,s_z114)] 18 (some [2]) (fun x=>if x=2 then some [0,5,6] else none) (fun x=>if x=0 then some [0] else if x=1 then some [0,5,6] else none) nP
def C_z96:Code:=cO Tryz.f96
def R_z96:Array ResultVar:=Tryz.f96.results
noncomputable def qrm (K:Ex→Fr→OA):=fun s2=>K .ret (frOf [(2,di s2)])
noncomputable def qnc (K:Ex→Fr→OA):=fun x0=>K (.exit 0) (frOf [(0,dn x0)])
def qrn (n:Nat):Ex→Fr→OA:=qw 0 (E_z96.cutb 0) (kSeq (evCP E_z96 (evLP E_z96 n) (sub C_z96 [1,1])) (kFnP E_z96 R_z96))
def qxO (x0:UInt8) (s5:List (UInt8×(Int×Unit))) (s6:Int):Fr:=frOf [(0,dn x0),(5,(.dat (.arr 8 (.pair .byte (.pair (.int .i32) .unit))) s5 none)),(6,dc s6)]
theorem qCN (K:Ex→Fr→OA):∀ (n:Nat) (x0:UInt8) (s5:List (UInt8×(Int×Unit))) (s6:Int),evLP E_z96 n (sub C_z96 [1,0,1,0,0]) K (qxO x0 s5 s6)=qvk (qrm K) (qnc K) n x0 s5 s6:=by
 intro n;induction n with
 | zero=>intros; rfl
 | succ n IH =>
 intro x0 s5 s6;have ih:(fun x0 s5 s6=>evLP E_z96 n (sub C_z96 [1,0,1,0,0]) K (qxO x0 s5 s6))=qvk (qrm K) (qnc K) n:=by
  funext x0 s5 s6;exact IH x0 s5 s6
 show _=qzS (qrm K) (qnc K) (qvk (qrm K) (qnc K) n) n x0 s5 s6;rw [← ih];kernel_rfl
theorem qus (n:Nat) (x0:UInt8):(qrn n) (.exit 0) (frOf [(0,dn x0)])=qlA n x0:=by
 kernel_rfl
theorem qQh (n:Nat) (x0:UInt8) (o0:Lab):evFnP E_z96 n C_z96 R_z96 [dp x0 o0]=qEN n x0:=by
 unfold qEN;rw [show qvk qct (qlA n) n=(fun x0 s5 s6=>evLP E_z96 n (sub C_z96 [1,0,1,0,0]) (qrn n) (qxO x0 s5 s6)) from by
  funext x0 s5 s6;refine Eq.trans ?_ (qCN (qrn n) n x0 s5 s6).symm;rw [show (qnc (qrn n))=(qlA n) from by
   funext x0;exact qus n x0]
  all_goals kernel_rfl]
 kernel_rfl
theorem qCO:qf G Tryz.prog 96 s_z96:=by
 refine sQ (E:=E_z96) (c:=C_z96) rfl (fun w S hg=>(qa (qxN w S hg) qd)) Tryz.func96 ?_;intro avs r h;unfold s_z96 at h;split at h <;> cases h
 obtain ⟨n,hn⟩:=qLx _;exact ⟨n,_,(qQh n _ _).trans hn,.inl rfl⟩
end
end Go.Av
