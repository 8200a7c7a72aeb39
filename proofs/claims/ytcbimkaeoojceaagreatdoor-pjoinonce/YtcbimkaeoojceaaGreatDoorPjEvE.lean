import Derived.Test.YtcbimkaeoojceaaGreatDoorPjEvD
import Derived.Test.YtcbimkaeoojceaaGreatDoorPjU
import Derived.Test.YtcbimkaeoojceaaGreatDoorProg
import Derived.KernelRfl
namespace Go.Av
set_option linter.unusedSimpArgs false
noncomputable section
open Go.Proofs
set_option maxRecDepth 100000
set_option linter.unusedVariables false
def E_z95:EnvP:=eQ [] 6 (some [2]) nC nC nP
def C_z95:Code:=cO Tryz.f95
def R_z95:Array ResultVar:=Tryz.f95.results
theorem qFX (n:Nat) (c0:Int) (o0:Lab):evFnP E_z95 n C_z95 R_z95 [.dat (.int .i32) c0 o0]=qBm n c0:=by
 kernel_rfl
theorem qwt:ql G Tryz.prog 95 s_z95:=by
 refine sQ (E:=E_z95) (c:=C_z95) rfl (fun w S hg=>qf) Tryz.func95 ?_;intro avs r h;unfold s_z95 at h;split at h <;> cases h
 obtain ⟨n,hn⟩:=qBY _;exact ⟨n,_,(qFX n _ _).trans hn,.inl rfl⟩
def E_z69:EnvP:=eQ [(72,s_z72),(95,s_z95)] 24 (some [2]) (fun x=>if x=4 then some [3,4,9,10,11] else none) (fun x=>if x=0 then some [3] else if x=1 then some [3,4,9,10,11] else none) (fun x=>if x=8 then some (.psl 21 (.leaf (.int .i32))) else none)
def C_z69:Code:=cO Tryz.f69
def R_z69:Array ResultVar:=Tryz.f69.results
noncomputable def X_z95 (K:Ex→Fr→Option AV):=fun t3=>K (.exit 0) (frOf [(3,(.pv (.psl 21 (.leaf (.int .i32))) t3 none))])
def qnK (n:Nat):Ex→Fr→Option AV:=qw 0 (E_z69.cutb 0) (kSeq (evCP E_z69 (evLP E_z69 n) (sub C_z69 [1,1,1,1])) (kFnP E_z69 R_z69))
def qsI (t3:List Int) (s10:Int) (s11:Int):Fr:=frOf [(3,(.pv (.psl 21 (.leaf (.int .i32))) t3 none)),(4,(.fn 95 [])),(9,(.pval 3 [])),(10,dc s10),(11,dc s11)]
theorem qwu (K:Ex→Fr→Option AV):∀ (n:Nat) (t3:List Int) (s10:Int) (s11:Int),evLP E_z69 n (sub C_z69 [1,1,1,0,1,0,0]) K (qsI t3 s10 s11)=qmm (X_z95 K) n t3 s10 s11:=by
 intro n;induction n with
 | zero=>intros; rfl
 | succ n IH =>
 intro t3 s10 s11;have ih:(fun t3 s10 s11=>evLP E_z69 n (sub C_z69 [1,1,1,0,1,0,0]) K (qsI t3 s10 s11))=qmm (X_z95 K) n:=by
  funext t3 s10 s11;exact IH t3 s10 s11
 show _=qez (X_z95 K) (qmm (X_z95 K) n) n t3 s10 s11;rw [← ih];kernel_rfl
theorem qpS (n:Nat) (t3:List Int):(qnK n) (.exit 0) (frOf [(3,(.pv (.psl 21 (.leaf (.int .i32))) t3 none))])=qgW n t3:=by
 kernel_rfl
theorem qFY (n:Nat) (s0:List UInt8) (o0:Lab):evFnP E_z69 n C_z69 R_z69 [db s0 o0]=qxB n s0:=by
 unfold qxB;rw [show qmm (qgW n) n=(fun t3 s10 s11=>evLP E_z69 n (sub C_z69 [1,1,1,0,1,0,0]) (qnK n) (qsI t3 s10 s11)) from by
  funext t3 s10 s11;refine Eq.trans ?_ (qwu (qnK n) n t3 s10 s11).symm;rw [show (X_z95 (qnK n))=(qgW n) from by
   funext t3;exact qpS n t3]
  all_goals kernel_rfl]
 kernel_rfl
theorem qwv:ql G Tryz.prog 69 s_z69:=by
 refine sQ (E:=E_z69) (c:=C_z69) rfl (fun w S hg=>(qb (qnJ w S hg) (qb (qwt w S hg) qf))) Tryz.func69 ?_;intro avs r h;unfold s_z69 at h;split at h
 ·obtain ⟨hp,rfl⟩:=yj h;obtain ⟨n,hn⟩:=qBZ _ hp;exact ⟨n,_,(qFY n _ _).trans hn,.inl rfl⟩
 ·cases h
def qEd:EnvP:=eQ [] 10 (some [0]) nC nC nP
def qEe:Code:=cO Tryz.f114
def qFZ:Array ResultVar:=Tryz.f114.results
theorem qEf (n:Nat)  : evFnP qEd n qEe qFZ []=qyR n  := by
 kernel_rfl
theorem qsJ:ql G Tryz.prog 114 s_z114:=by
 refine sQ (E:=qEd) (c:=qEe) rfl (fun w S hg=>qf) Tryz.func114 ?_;intro avs r h;unfold s_z114 at h;split at h <;> cases h
 obtain ⟨n,hn⟩:=qxS;exact ⟨n,_,(qEf n ).trans hn,.inl rfl⟩
def E_z96:EnvP:=eQ [(114,s_z114)] 18 (some [2]) (fun x=>if x=2 then some [0,5,6] else none) (fun x=>if x=0 then some [0] else if x=1 then some [0,5,6] else none) nP
def C_z96:Code:=cO Tryz.f96
def R_z96:Array ResultVar:=Tryz.f96.results
noncomputable def qnL (K:Ex→Fr→Option AV):=fun s2=>K .ret (frOf [(2,(.dat (.int .i32) s2 none))])
noncomputable def qkv (K:Ex→Fr→Option AV):=fun x0=>K (.exit 0) (frOf [(0,(di x0 none))])
def qnM (n:Nat):Ex→Fr→Option AV:=qw 0 (E_z96.cutb 0) (kSeq (evCP E_z96 (evLP E_z96 n) (sub C_z96 [1,1])) (kFnP E_z96 R_z96))
def qsK (x0:UInt8) (s5:List (UInt8×(Int×Unit))) (s6:Int):Fr:=frOf [(0,(di x0 none)),(5,(.dat (.arr 8 (.pair .byte (.pair (.int .i32) .unit))) s5 none)),(6,dc s6)]
theorem qww (K:Ex→Fr→Option AV):∀ (n:Nat) (x0:UInt8) (s5:List (UInt8×(Int×Unit))) (s6:Int),evLP E_z96 n (sub C_z96 [1,0,1,0,0]) K (qsK x0 s5 s6)=qqs (qnL K) (qkv K) n x0 s5 s6:=by
 intro n;induction n with
 | zero=>intros; rfl
 | succ n IH =>
 intro x0 s5 s6;have ih:(fun x0 s5 s6=>evLP E_z96 n (sub C_z96 [1,0,1,0,0]) K (qsK x0 s5 s6))=qqs (qnL K) (qkv K) n:=by
  funext x0 s5 s6;exact IH x0 s5 s6
 show _=quk (qnL K) (qkv K) (qqs (qnL K) (qkv K) n) n x0 s5 s6;rw [← ih];kernel_rfl
theorem qpT (n:Nat) (x0:UInt8):(qnM n) (.exit 0) (frOf [(0,(di x0 none))])=qjm n x0:=by
 kernel_rfl
theorem qGa (n:Nat) (x0:UInt8) (o0:Lab):evFnP E_z96 n C_z96 R_z96 [di x0 o0]=qxC n x0:=by
 unfold qxC;rw [show qqs qbE (qjm n) n=(fun x0 s5 s6=>evLP E_z96 n (sub C_z96 [1,0,1,0,0]) (qnM n) (qsK x0 s5 s6)) from by
  funext x0 s5 s6;refine Eq.trans ?_ (qww (qnM n) n x0 s5 s6).symm;rw [show (qkv (qnM n))=(qjm n) from by
   funext x0;exact qpT n x0]
  all_goals kernel_rfl]
 kernel_rfl
theorem qwx:ql G Tryz.prog 96 s_z96:=by
 refine sQ (E:=E_z96) (c:=C_z96) rfl (fun w S hg=>(qb (qsJ w S hg) qf)) Tryz.func96 ?_;intro avs r h;unfold s_z96 at h;split at h <;> cases h
 obtain ⟨n,hn⟩:=qCa _;exact ⟨n,_,(qGa n _ _).trans hn,.inl rfl⟩
def E_z70:EnvP:=eQ [(96,s_z96)] 19 (some [2]) (fun x=>if x=3 then some [3,6,7,8] else none) (fun x=>if x=0 then some [3] else if x=1 then some [3,6,7,8] else none) nP
def C_z70:Code:=cO Tryz.f70
def R_z70:Array ResultVar:=Tryz.f70.results
noncomputable def qkw (K:Ex→Fr→Option AV):=fun t3=>K (.exit 0) (frOf [(3,(.dat (.sl (.int .i32)) t3 (some (3,21))))])
def qnN (n:Nat):Ex→Fr→Option AV:=qw 0 (E_z70.cutb 0) (kSeq (evCP E_z70 (evLP E_z70 n) (sub C_z70 [1,1,1])) (kFnP E_z70 R_z70))
def qsL (t3:List Int) (s6:List UInt8) (s7:Int) (s8:Int):Fr:=frOf [(3,(.dat (.sl (.int .i32)) t3 (some (3,21)))),(6,da s6),(7,dc s7),(8,dc s8)]
theorem qwy (K:Ex→Fr→Option AV):∀ (n:Nat) (t3:List Int) (s6:List UInt8) (s7:Int) (s8:Int),evLP E_z70 n (sub C_z70 [1,1,0,1,0,0]) K (qsL t3 s6 s7 s8)=qmn (qkw K) n t3 s6 s7 s8:=by
 intro n;induction n with
 | zero=>intros; rfl
 | succ n IH =>
 intro t3 s6 s7 s8;have ih:(fun t3 s6 s7 s8=>evLP E_z70 n (sub C_z70 [1,1,0,1,0,0]) K (qsL t3 s6 s7 s8))=qmn (qkw K) n:=by
  funext t3 s6 s7 s8;exact IH t3 s6 s7 s8
 show _=qeA (qkw K) (qmn (qkw K) n) n t3 s6 s7 s8;rw [← ih];kernel_rfl
theorem qpU (n:Nat) (t3:List Int):(qnN n) (.exit 0) (frOf [(3,(.dat (.sl (.int .i32)) t3 (some (3,21))))])=qeB n t3:=by
 kernel_rfl
theorem qGb (n:Nat) (s0:List UInt8) (o0:Lab):evFnP E_z70 n C_z70 R_z70 [db s0 o0]=qxD n s0:=by
 unfold qxD;rw [show qmn (qeB n) n=(fun t3 s6 s7 s8=>evLP E_z70 n (sub C_z70 [1,1,0,1,0,0]) (qnN n) (qsL t3 s6 s7 s8)) from by
  funext t3 s6 s7 s8;refine Eq.trans ?_ (qwy (qnN n) n t3 s6 s7 s8).symm;rw [show (qkw (qnN n))=(qeB n) from by
   funext t3;exact qpU n t3]
  all_goals kernel_rfl]
 kernel_rfl
theorem qwz:ql G Tryz.prog 70 s_z70:=by
 refine sQ (E:=E_z70) (c:=C_z70) rfl (fun w S hg=>(qb (qwx w S hg) qf)) Tryz.func70 ?_;intro avs r h;unfold s_z70 at h;split at h
 ·obtain ⟨hp,rfl⟩:=yj h;obtain ⟨n,hn⟩:=qCb _ hp;exact ⟨n,_,(qGb n _ _).trans hn,.inl rfl⟩
 ·cases h
def qEg:EnvP:=⟨⟨tiOf tis,fnsOf [],cnsOf [],[],4,(fun _=>none),(fun _=>none),some [0]⟩,fun _=>none,fun _=>none,(fun x=>if x=500002 then [1] else []),fun _=>none,fun _=>none,fun _=>none,fun _=>none⟩
def qEh:Code:=cO Tryz.f115
def qGc:Array ResultVar:=Tryz.f115.results
theorem qEi (n:Nat)  : evFnP qEg n qEh qGc []=qyT n  := by
 kernel_rfl
theorem qsM:ql G Tryz.prog 115 s_z115:=by
 refine qK G_stays (E:=qEg) (fn:=Tryz.f115) (c:=qEh) (qo rfl qbZ) (fun w S hg=>⟨⟨qf,fun f sp h=>qaJ f sp h w S⟩,qaL w S hg,(fun _ _ h=>by cases h),(fun f sp h=>qbj f sp h),(fun f it h=>qbk f it h),(fun t kt vt h=>qaK t kt vt h)⟩) follows Tryz.func115 (by kernel_rfl) (by kernel_rfl) (by kernel_rfl) ?_;intro avs r h;unfold s_z115 at h;split at h <;> cases h
 obtain ⟨n,hn⟩:=qxT;exact ⟨n,_,(qEi n ).trans hn,.inl rfl⟩
def E_z97:EnvP:=eQ [(115,s_z115)] 20 (some [2]) nC nC nP
def C_z97:Code:=cO Tryz.f97
def R_z97:Array ResultVar:=Tryz.f97.results
theorem qGd (n:Nat) (x0:UInt8) (o0:Lab):evFnP E_z97 n C_z97 R_z97 [di x0 o0]=qBn n x0:=by
 kernel_rfl
theorem qwA:ql G Tryz.prog 97 s_z97:=by
 refine sQ (E:=E_z97) (c:=C_z97) rfl (fun w S hg=>(qb (qsM w S hg) qf)) Tryz.func97 ?_;intro avs r h;unfold s_z97 at h;split at h <;> cases h
 obtain ⟨n,hn⟩:=qCn _;exact ⟨n,_,(qGd n _ _).trans hn,.inl rfl⟩
def E_z71:EnvP:=eQ [(97,s_z97)] 22 (some [2]) (fun x=>if x=3 then some [3,9,10,11] else none) (fun x=>if x=0 then some [3] else if x=1 then some [3,9,10,11] else none) nP
def C_z71:Code:=cO Tryz.f71
def R_z71:Array ResultVar:=Tryz.f71.results
noncomputable def qkx (K:Ex→Fr→Option AV):=fun t3=>K (.exit 0) (frOf [(3,(.dat (.sl (.int .i32)) t3 (some (3,21))))])
def qnO (n:Nat):Ex→Fr→Option AV:=qw 0 (E_z71.cutb 0) (kSeq (evCP E_z71 (evLP E_z71 n) (sub C_z71 [1,1,1])) (kFnP E_z71 R_z71))
def qsN (t3:List Int) (s9:List UInt8) (s10:Int) (s11:Int):Fr:=frOf [(3,(.dat (.sl (.int .i32)) t3 (some (3,21)))),(9,da s9),(10,dc s10),(11,dc s11)]
theorem qwB (K:Ex→Fr→Option AV):∀ (n:Nat) (t3:List Int) (s9:List UInt8) (s10:Int) (s11:Int),evLP E_z71 n (sub C_z71 [1,1,0,1,0,0]) K (qsN t3 s9 s10 s11)=qmo (qkx K) n t3 s9 s10 s11:=by
 intro n;induction n with
 | zero=>intros; rfl
 | succ n IH =>
 intro t3 s9 s10 s11;have ih:(fun t3 s9 s10 s11=>evLP E_z71 n (sub C_z71 [1,1,0,1,0,0]) K (qsN t3 s9 s10 s11))=qmo (qkx K) n:=by
  funext t3 s9 s10 s11;exact IH t3 s9 s10 s11
 show _=qeC (qkx K) (qmo (qkx K) n) n t3 s9 s10 s11;rw [← ih];kernel_rfl
theorem qpV (n:Nat) (t3:List Int):(qnO n) (.exit 0) (frOf [(3,(.dat (.sl (.int .i32)) t3 (some (3,21))))])=qeD n t3:=by
 kernel_rfl
theorem qGe (n:Nat) (s0:List UInt8) (o0:Lab):evFnP E_z71 n C_z71 R_z71 [db s0 o0]=qxE n s0:=by
 unfold qxE;rw [show qmo (qeD n) n=(fun t3 s9 s10 s11=>evLP E_z71 n (sub C_z71 [1,1,0,1,0,0]) (qnO n) (qsN t3 s9 s10 s11)) from by
  funext t3 s9 s10 s11;refine Eq.trans ?_ (qwB (qnO n) n t3 s9 s10 s11).symm;rw [show (qkx (qnO n))=(qeD n) from by
   funext t3;exact qpV n t3]
  all_goals kernel_rfl]
 kernel_rfl
theorem qwC:ql G Tryz.prog 71 s_z71:=by
 refine sQ (E:=E_z71) (c:=C_z71) rfl (fun w S hg=>(qb (qwA w S hg) qf)) Tryz.func71 ?_;intro avs r h;unfold s_z71 at h;split at h
 ·obtain ⟨hp,rfl⟩:=yj h;obtain ⟨n,hn⟩:=qCc _ hp;exact ⟨n,_,(qGe n _ _).trans hn,.inl rfl⟩
 ·cases h
def E_z50:EnvP:=eQ [(51,s_z51),(69,s_z69),(70,s_z70),(71,s_z71),(72,s_z72)] 24 (some [1000004]) nC (fun x=>if x=0 then some [1] else none) nP
def C_z50:Code:=cO Tryz.f50
def R_z50:Array ResultVar:=Tryz.f50.results
theorem qGf (n:Nat) (charset0:Int) (o0:Lab) (s1:List UInt8) (o1:Lab):evFnP E_z50 n C_z50 R_z50 [de charset0 o0,db s1 o1]=qBo n charset0 s1:=by
 kernel_rfl
theorem qwD:ql G Tryz.prog 50 s_z50:=by
 refine sQ (E:=E_z50) (c:=C_z50) rfl (fun w S hg=>(qb (qnH w S hg) (qb (qwv w S hg) (qb (qwz w S hg) (qb (qwC w S hg) (qb (qnJ w S hg) qf)))))) Tryz.func50 ?_;intro avs r h;unfold s_z50 at h;split at h
 ·obtain ⟨hp,rfl⟩:=yj h;obtain ⟨n,hn⟩:=qCd _ _ hp;exact ⟨n,_,(qGf n _ _ _ _).trans hn,.inl rfl⟩
 ·cases h
def E_z30:EnvP:=eQ [(46,s_z46),(47,s_z47),(48,s_z48),(49,s_z49),(50,s_z50),(51,s_z51)] 60 (some [2]) (fun x=>if x=11 then some [3,4,10,42,43,44] else none) (fun x=>if x=0 then some [3,4,10] else if x=1 then some [3,4,10,42,43,44] else none) nP
def C_z30:Code:=cO Tryz.f30
def R_z30:Array ResultVar:=Tryz.f30.results
noncomputable def qky (K:Ex→Fr→Option AV):=fun first3 charset4 s10=>K (.exit 0) (frOf [(3,(.box (.pair (.sl .byte) (.pair (.int .i64) (.pair .bool (.pair (.sl .byte) .unit)))) first3)),(4,dc charset4),(10,(db s10 (some (10,5))))])
def qnP (n:Nat):Ex→Fr→Option AV:=qw 0 (E_z30.cutb 0) (kSeq (evCP E_z30 (evLP E_z30 n) (sub C_z30 [1,1,1,1,1,1])) (kFnP E_z30 R_z30))
def qsO (first3:(List UInt8)×(Int×(Bool×((List UInt8)×Unit)))) (charset4:Int) (s10:List UInt8) (s42:List ((List UInt8)×(Int×(Bool×((List UInt8)×Unit))))) (s43:Int) (s44:Int):Fr:=frOf [(3,(.box (.pair (.sl .byte) (.pair (.int .i64) (.pair .bool (.pair (.sl .byte) .unit)))) first3)),(4,dc charset4),(10,(db s10 (some (10,5)))),(42,(.dat (.sl (.pair (.sl .byte) (.pair (.int .i64) (.pair .bool (.pair (.sl .byte) .unit))))) s42 none)),(43,dc s43),(44,dc s44)]
theorem qsP (K:Ex→Fr→Option AV):∀ (n:Nat) (first3:(List UInt8)×(Int×(Bool×((List UInt8)×Unit)))) (charset4:Int) (s10:List UInt8) (s42:List ((List UInt8)×(Int×(Bool×((List UInt8)×Unit))))) (s43:Int) (s44:Int),evLP E_z30 n (sub C_z30 [1,1,1,1,1,0,1,0,0]) K (qsO first3 charset4 s10 s42 s43 s44)=qcq (qky K) n first3 charset4 s10 s42 s43 s44:=by
 intro n;induction n with
 | zero=>intros; rfl
 | succ n IH =>
 intro first3 charset4 s10 s42 s43 s44;have ih:(fun first3 charset4 s10 s42 s43 s44=>evLP E_z30 n (sub C_z30 [1,1,1,1,1,0,1,0,0]) K (qsO first3 charset4 s10 s42 s43 s44))=qcq (qky K) n:=by
  funext first3 charset4 s10 s42 s43 s44;exact IH first3 charset4 s10 s42 s43 s44
 show _=qcI (qky K) (qcq (qky K) n) n first3 charset4 s10 s42 s43 s44;rw [← ih];kernel_rfl
theorem qlS (n:Nat) (first3:(List UInt8)×(Int×(Bool×((List UInt8)×Unit)))) (charset4:Int) (s10:List UInt8):(qnP n) (.exit 0) (frOf [(3,(.box (.pair (.sl .byte) (.pair (.int .i64) (.pair .bool (.pair (.sl .byte) .unit)))) first3)),(4,dc charset4),(10,(db s10 (some (10,5))))])=qai n first3 charset4 s10:=by
 kernel_rfl
theorem qGg (n:Nat) (l0:List ((List UInt8)×(Int×(Bool×((List UInt8)×Unit))))) (o0:Lab):evFnP E_z30 n C_z30 R_z30 [.dat (.sl (.pair (.sl .byte) (.pair (.int .i64) (.pair .bool (.pair (.sl .byte) .unit))))) l0 o0]=qxF n l0:=by
 unfold qxF qcJ qaH qaa qN;rw [show qcq (qai n) n=(fun first3 charset4 s10 s42 s43 s44=>evLP E_z30 n (sub C_z30 [1,1,1,1,1,0,1,0,0]) (qnP n) (qsO first3 charset4 s10 s42 s43 s44)) from by
  funext first3 charset4 s10 s42 s43 s44;refine Eq.trans ?_ (qsP (qnP n) n first3 charset4 s10 s42 s43 s44).symm;rw [show (qky (qnP n))=(qai n) from by
   funext first3 charset4 s10;exact qlS n first3 charset4 s10]
  all_goals kernel_rfl]
 kernel_rfl
theorem qwE:ql G Tryz.prog 30 s_z30:=by
 refine sQ (E:=E_z30) (c:=C_z30) rfl (fun w S hg=>(qb (qwa w S hg) (qb (qwh w S hg) (qb (qvV w S hg) (qb (qwn w S hg) (qb (qwD w S hg) (qb (qnH w S hg) qf))))))) Tryz.func30 ?_;intro avs r h;unfold s_z30 at h;split at h
 ·obtain ⟨hp,rfl⟩:=yj h;obtain ⟨n,hn⟩:=qAK _ hp;exact ⟨n,_,(qGg n _ _).trans hn,.inl rfl⟩
 ·cases h
end
end Go.Av
