import Derived.Test.YtcbimkaeoojceaaGreatDoorPjEvE
import Derived.Test.YtcbimkaeoojceaaGreatDoorPjU
import Derived.Test.YtcbimkaeoojceaaGreatDoorProg
import Derived.KernelRfl
namespace Go.Av
set_option linter.unusedSimpArgs false
noncomputable section
open Go.Proofs
set_option maxRecDepth 100000
set_option linter.unusedVariables false
def E_z14:EnvP:=⟨⟨tiOf tis,fnsOf [(28,s_z28),(29,s_z29),(30,s_z30)],cnsOf [],[],60,(fun x=>if x=4 then some [0,3,4,13,14,15] else if x=12 then some [0,3,4,7,9,13,14,15,37,38,39] else none),(fun x=>if x=0 then some [3] else if x=1 then some [0,3,4,13,14,15] else if x=2 then some [0,3,4,7,9,13,14,15] else if x=3 then some [0,3,4,7,9,13,14,15,37,38,39] else none),some [2]⟩,fun _=>none,fun _=>none,fun _=>[],fun _=>none,fun _=>none,fun _=>none,(fun x=>if x=57 then some (9,4) else none)⟩
def C_z14:Code:=cO Tryz.f14
def R_z14:Array ResultVar:=Tryz.f14.results
noncomputable def qkz (K:Ex→Fr→Option AV):=fun l0 out3 met4 name7 of9 s13 s14 s15=>K (.exit 2) (frOf [(0,(.dat (.sl (.pair (.sl .byte) (.pair (.int .i64) (.pair .bool (.pair (.sl .byte) .unit))))) l0 none)),(3,(.dat (.sl (.pair (.sl .byte) (.pair (.sl (.int .i32)) .unit))) out3 (some (3,31)))),(4,(.abs (.sl (.pair .str .bool)) (qen .str .bool) met4)),(7,(db name7 (some (7,5)))),(9,(.dat (.sl (.pair (.sl .byte) (.pair (.int .i64) (.pair .bool (.pair (.sl .byte) .unit))))) of9 (some (9,59)))),(13,(.dat (.sl (.pair (.sl .byte) (.pair (.int .i64) (.pair .bool (.pair (.sl .byte) .unit))))) s13 none)),(14,dc s14),(15,dc s15)])
noncomputable def qgH (K:Ex→Fr→Option AV):=fun out3=>K (.exit 0) (frOf [(3,(.dat (.sl (.pair (.sl .byte) (.pair (.sl (.int .i32)) .unit))) out3 (some (3,31))))])
def qnQ (n:Nat) (K:Ex→Fr→Option AV):Ex→Fr→Option AV:=qw 2 (E_z14.cutb 2) (kSeq (evCP E_z14 (evLP E_z14 n) (sub C_z14 [1,1,1,0,1,0,0,1,1,0,0,1,1,1,1,1,1,1])) (qw 1 (E_z14.cutb 1) (kSeq (evCP E_z14 (evLP E_z14 n) (sub C_z14 [1,1,1,0,1,0,0,1,1,1])) (kSeq (fun K fr=>evLP E_z14 n (sub C_z14 [1,1,1,0,1,0,0]) K (cutFP (E_z14.cuts 4) fr)) K))))
def qnR (n:Nat):Ex→Fr→Option AV:=qw 0 (E_z14.cutb 0) (kSeq (evCP E_z14 (evLP E_z14 n) (sub C_z14 [1,1,1,1])) (kFnP E_z14 R_z14))
def qsQ (l0:List ((List UInt8)×(Int×(Bool×((List UInt8)×Unit))))) (out3:List ((List UInt8)×((List Int)×Unit))) (met4:List ((List UInt8)×Bool)) (name7:List UInt8) (of9:List ((List UInt8)×(Int×(Bool×((List UInt8)×Unit))))) (s13:List ((List UInt8)×(Int×(Bool×((List UInt8)×Unit))))) (s14:Int) (s15:Int) (s37:List Int) (s38:Int) (s39:Int):Fr:=frOf [(0,(.dat (.sl (.pair (.sl .byte) (.pair (.int .i64) (.pair .bool (.pair (.sl .byte) .unit))))) l0 none)),(3,(.dat (.sl (.pair (.sl .byte) (.pair (.sl (.int .i32)) .unit))) out3 (some (3,31)))),(4,(.abs (.sl (.pair .str .bool)) (qen .str .bool) met4)),(7,(db name7 (some (7,5)))),(9,(.dat (.sl (.pair (.sl .byte) (.pair (.int .i64) (.pair .bool (.pair (.sl .byte) .unit))))) of9 (some (9,59)))),(13,(.dat (.sl (.pair (.sl .byte) (.pair (.int .i64) (.pair .bool (.pair (.sl .byte) .unit))))) s13 none)),(14,dc s14),(15,dc s15),(37,(.dat (.sl (.int .i64)) s37 none)),(38,dc s38),(39,dc s39)]
def qhA (l0:List ((List UInt8)×(Int×(Bool×((List UInt8)×Unit))))) (out3:List ((List UInt8)×((List Int)×Unit))) (met4:List ((List UInt8)×Bool)) (s13:List ((List UInt8)×(Int×(Bool×((List UInt8)×Unit))))) (s14:Int) (s15:Int):Fr:=frOf [(0,(.dat (.sl (.pair (.sl .byte) (.pair (.int .i64) (.pair .bool (.pair (.sl .byte) .unit))))) l0 none)),(3,(.dat (.sl (.pair (.sl .byte) (.pair (.sl (.int .i32)) .unit))) out3 (some (3,31)))),(4,(.abs (.sl (.pair .str .bool)) (qen .str .bool) met4)),(13,(.dat (.sl (.pair (.sl .byte) (.pair (.int .i64) (.pair .bool (.pair (.sl .byte) .unit))))) s13 none)),(14,dc s14),(15,dc s15)]
theorem qsR (K:Ex→Fr→Option AV):∀ (n:Nat) (l0:List ((List UInt8)×(Int×(Bool×((List UInt8)×Unit))))) (out3:List ((List UInt8)×((List Int)×Unit))) (met4:List ((List UInt8)×Bool)) (name7:List UInt8) (of9:List ((List UInt8)×(Int×(Bool×((List UInt8)×Unit))))) (s13:List ((List UInt8)×(Int×(Bool×((List UInt8)×Unit))))) (s14:Int) (s15:Int) (s37:List Int) (s38:Int) (s39:Int),evLP E_z14 n (sub C_z14 [1,1,1,0,1,0,0,1,1,0,0,1,1,1,1,1,1,0,1,0,0]) K (qsQ l0 out3 met4 name7 of9 s13 s14 s15 s37 s38 s39)=qgX (qkz K) n l0 out3 met4 name7 of9 s13 s14 s15 s37 s38 s39:=by
 intro n;induction n with
 | zero=>intros; rfl
 | succ n IH =>
 intro l0 out3 met4 name7 of9 s13 s14 s15 s37 s38 s39;have ih:(fun l0 out3 met4 name7 of9 s13 s14 s15 s37 s38 s39=>evLP E_z14 n (sub C_z14 [1,1,1,0,1,0,0,1,1,0,0,1,1,1,1,1,1,0,1,0,0]) K (qsQ l0 out3 met4 name7 of9 s13 s14 s15 s37 s38 s39))=qgX (qkz K) n:=by
  funext l0 out3 met4 name7 of9 s13 s14 s15 s37 s38 s39;exact IH l0 out3 met4 name7 of9 s13 s14 s15 s37 s38 s39
 show _=qcK (qkz K) (qgX (qkz K) n) n l0 out3 met4 name7 of9 s13 s14 s15 s37 s38 s39;rw [← ih];kernel_rfl
theorem qlT (K:Ex→Fr→Option AV) (n:Nat) (l0:List ((List UInt8)×(Int×(Bool×((List UInt8)×Unit))))) (out3:List ((List UInt8)×((List Int)×Unit))) (met4:List ((List UInt8)×Bool)) (name7:List UInt8) (of9:List ((List UInt8)×(Int×(Bool×((List UInt8)×Unit))))) (s13:List ((List UInt8)×(Int×(Bool×((List UInt8)×Unit))))) (s14:Int) (s15:Int):(qnQ n K) (.exit 2) (frOf [(0,(.dat (.sl (.pair (.sl .byte) (.pair (.int .i64) (.pair .bool (.pair (.sl .byte) .unit))))) l0 none)),(3,(.dat (.sl (.pair (.sl .byte) (.pair (.sl (.int .i32)) .unit))) out3 (some (3,31)))),(4,(.abs (.sl (.pair .str .bool)) (qen .str .bool) met4)),(7,(db name7 (some (7,5)))),(9,(.dat (.sl (.pair (.sl .byte) (.pair (.int .i64) (.pair .bool (.pair (.sl .byte) .unit))))) of9 (some (9,59)))),(13,(.dat (.sl (.pair (.sl .byte) (.pair (.int .i64) (.pair .bool (.pair (.sl .byte) .unit))))) s13 none)),(14,dc s14),(15,dc s15)])=qcL (fun out3=>K (.exit 0) (frOf [(3,(.dat (.sl (.pair (.sl .byte) (.pair (.sl (.int .i32)) .unit))) out3 (some (3,31))))])) (fun l0 out3 met4 s13 s14 s15=>evLP E_z14 n (sub C_z14 [1,1,1,0,1,0,0]) K (qhA l0 out3 met4 s13 s14 s15)) n l0 out3 met4 name7 of9 s13 s14 s15:=by
 kernel_rfl
theorem qwF (K:Ex→Fr→Option AV):∀ (n:Nat) (l0:List ((List UInt8)×(Int×(Bool×((List UInt8)×Unit))))) (out3:List ((List UInt8)×((List Int)×Unit))) (met4:List ((List UInt8)×Bool)) (s13:List ((List UInt8)×(Int×(Bool×((List UInt8)×Unit))))) (s14:Int) (s15:Int),evLP E_z14 n (sub C_z14 [1,1,1,0,1,0,0]) K (qhA l0 out3 met4 s13 s14 s15)=qkQ (qgH K) n l0 out3 met4 s13 s14 s15:=by
 intro n;induction n with
 | zero=>intros; rfl
 | succ n IH =>
 intro l0 out3 met4 s13 s14 s15;have ih:(fun l0 out3 met4 s13 s14 s15=>evLP E_z14 n (sub C_z14 [1,1,1,0,1,0,0]) K (qhA l0 out3 met4 s13 s14 s15))=qkQ (qgH K) n:=by
  funext l0 out3 met4 s13 s14 s15;exact IH l0 out3 met4 s13 s14 s15
 show _=qdh (qgH K) (qkQ (qgH K) n) n l0 out3 met4 s13 s14 s15;rw [← ih];unfold qdh qW;rw [show qgX (qcL (qgH K) (fun l0 out3 met4 s13 s14 s15=>evLP E_z14 n (sub C_z14 [1,1,1,0,1,0,0]) K (qhA l0 out3 met4 s13 s14 s15)) n) n=(fun l0 out3 met4 name7 of9 s13 s14 s15 s37 s38 s39=>evLP E_z14 n (sub C_z14 [1,1,1,0,1,0,0,1,1,0,0,1,1,1,1,1,1,0,1,0,0]) (qnQ n K) (qsQ l0 out3 met4 name7 of9 s13 s14 s15 s37 s38 s39)) from by
  funext l0 out3 met4 name7 of9 s13 s14 s15 s37 s38 s39;refine Eq.trans ?_ (qsR (qnQ n K) n l0 out3 met4 name7 of9 s13 s14 s15 s37 s38 s39).symm;rw [show (qkz (qnQ n K))=(qcL (qgH K) (fun l0 out3 met4 s13 s14 s15=>evLP E_z14 n (sub C_z14 [1,1,1,0,1,0,0]) K (qhA l0 out3 met4 s13 s14 s15)) n) from by
   funext l0 out3 met4 name7 of9 s13 s14 s15;exact qlT K n l0 out3 met4 name7 of9 s13 s14 s15]
  all_goals kernel_rfl]
 kernel_rfl
theorem qpW (n:Nat) (out3:List ((List UInt8)×((List Int)×Unit))):(qnR n) (.exit 0) (frOf [(3,(.dat (.sl (.pair (.sl .byte) (.pair (.sl (.int .i32)) .unit))) out3 (some (3,31))))])=qdi n out3:=by
 kernel_rfl
theorem qGh (n:Nat) (l0:List ((List UInt8)×(Int×(Bool×((List UInt8)×Unit))))) (o0:Lab):evFnP E_z14 n C_z14 R_z14 [.dat (.sl (.pair (.sl .byte) (.pair (.int .i64) (.pair .bool (.pair (.sl .byte) .unit))))) l0 o0]=qBp n l0:=by
 unfold qBp;rw [show qkQ (qdi n) n=(fun l0 out3 met4 s13 s14 s15=>evLP E_z14 n (sub C_z14 [1,1,1,0,1,0,0]) (qnR n) (qhA l0 out3 met4 s13 s14 s15)) from by
  funext l0 out3 met4 s13 s14 s15;refine Eq.trans ?_ (qwF (qnR n) n l0 out3 met4 s13 s14 s15).symm;rw [show (qgH (qnR n))=(qdi n) from by
   funext out3;exact qpW n out3]
  all_goals kernel_rfl]
 kernel_rfl
theorem qwG:ql G Tryz.prog 14 s_z14:=by
 refine qK G_stays (E:=E_z14) (fn:=Tryz.f14) (c:=C_z14) (qo rfl qbZ) (fun w S hg=>⟨⟨(qb (qfz w S hg) (qb (qvY w S hg) (qb (qwE w S hg) qf))),fun f sp h=>qaJ f sp h w S⟩,qaL w S hg,(fun _ _ h=>by cases h),(fun f sp h=>qbj f sp h),(fun f it h=>qbk f it h),(fun t kt vt h=>(qle (by kernel_rfl) qaK) t kt vt h)⟩) follows Tryz.func14 (by kernel_rfl) (by kernel_rfl) (by kernel_rfl) ?_;intro avs r h;unfold s_z14 at h;split at h
 ·obtain ⟨hp,rfl⟩:=yj h;obtain ⟨n,hn⟩:=qAP _ hp;exact ⟨n,_,(qGh n _ _).trans hn,.inl rfl⟩
 ·cases h
def E_z76:EnvP:=eQ [] 10 (some [4]) nC nC nP
def C_z76:Code:=cO Tryz.f76
def R_z76:Array ResultVar:=Tryz.f76.results
theorem qGi (n:Nat) (s0:List UInt8) (o0:Lab) (at1:Int) (o1:Lab):evFnP E_z76 n C_z76 R_z76 [db s0 o0,de at1 o1]=qBq n s0 at1:=by
 kernel_rfl
theorem qfB:ql G Tryz.prog 76 s_z76:=by
 refine sQ (E:=E_z76) (c:=C_z76) rfl (fun w S hg=>qf) Tryz.func76 ?_;intro avs r h;unfold s_z76 at h;split at h <;> cases h
 obtain ⟨n,hn⟩:=qAp _ _;exact ⟨n,_,(qGi n _ _ _ _).trans hn,.inl rfl⟩
def qEj:EnvP:=eQ [] 56 (some [4,56]) nC (fun x=>if x=0 then some [56] else none) nP
def qEk:Code:=cO Tryz.f100
def qGj:Array ResultVar:=Tryz.f100.results
theorem qEl (n:Nat) (k0:Int×(Int×(Bool×Unit))) (c1:UInt8) (o1:Lab):evFnM qEj n qEk qGj [.pbox (.ppair (.leaf (.int .i64)) (.ppair (.leaf (.int .i64)) (.ppair (.leaf .bool) (.leaf .unit)))) k0 none,di c1 o1]=qun n k0 c1:=by
 kernel_rfl
theorem qsS:qjS G Tryz.prog 100 s_z100:=by
 refine qam G_stays (E:=qEj) (fn:=Tryz.f100) (c:=qEk) (qo rfl qbZ) (fun w S hg=>⟨⟨qf,fun f sp h=>qaJ f sp h w S⟩,qaL w S hg,(fun _ _ h=>by cases h),(fun f sp h=>qbj f sp h),(fun f it h=>qbk f it h),(fun t kt vt h=>qaK t kt vt h)⟩) follows Tryz.func100 (by kernel_rfl) (by kernel_rfl) (by kernel_rfl) ?_;intro avs r h;unfold s_z100 at h;split at h
 ·obtain ⟨hp,rfl⟩:=yj h;obtain ⟨n,hn⟩:=qxt _ _ hp;exact ⟨n,(qEl n _ _ _).trans hn⟩
 ·cases h
def E_z78:EnvP:=⟨⟨tiOf tis,fnsOf [],cnsOf [],[],35,(fun x=>if x=4 then some [0,4,5,12,13,14] else none),(fun x=>if x=0 then some [0,4] else if x=1 then some [0,4,5,12,13,14] else none),some [2,3]⟩,(fun x=>if x=8 then some (.ppair (.leaf (.int .i64)) (.ppair (.leaf (.int .i64)) (.ppair (.leaf .bool) (.leaf .unit)))) else if x=9 then some (.ppair (.leaf (.int .i64)) (.ppair (.leaf (.int .i64)) (.ppair (.leaf .bool) (.leaf .unit)))) else none),fun _=>none,fun _=>[],(fun x=>if x=100 then some s_z100 else none),fun _=>none,fun _=>none,fun _=>none⟩
def C_z78:Code:=cO Tryz.f78
def R_z78:Array ResultVar:=Tryz.f78.results
noncomputable def qkA (K:Ex→Fr→Option AV):=fun s0 k4=>K (.exit 0) (frOf [(0,da s0),(4,(.pbox (.ppair (.leaf (.int .i64)) (.ppair (.leaf (.int .i64)) (.ppair (.leaf .bool) (.leaf .unit)))) k4 none))])
noncomputable def qnS (K:Ex→Fr→Option AV):=fun s2 s3=>K .ret (frOf [(2,dc s2),(3,dc s3)])
def qnT (n:Nat):Ex→Fr→Option AV:=qw 0 (E_z78.cutb 0) (kSeq (evCP E_z78 (evLP E_z78 n) (sub C_z78 [1,1,1,1])) (kFnP E_z78 R_z78))
def qsT (s0:List UInt8) (k4:Int×(Int×(Bool×Unit))) (s12:List UInt8) (s13:Int) (s14:Int):Fr:=frOf [(0,da s0),(4,(.pbox (.ppair (.leaf (.int .i64)) (.ppair (.leaf (.int .i64)) (.ppair (.leaf .bool) (.leaf .unit)))) k4 none)),(5,(.padr 4 [.clo 100 true])),(12,da s12),(13,dc s13),(14,dc s14)]
theorem qwH (K:Ex→Fr→Option AV):∀ (n:Nat) (s0:List UInt8) (k4:Int×(Int×(Bool×Unit))) (s12:List UInt8) (s13:Int) (s14:Int),evLP E_z78 n (sub C_z78 [1,1,1,0,1,0,0]) K (qsT s0 k4 s12 s13 s14)=qmp (qnS K) (qkA K) n s0 k4 s12 s13 s14:=by
 intro n;induction n with
 | zero=>intros; rfl
 | succ n IH =>
 intro s0 k4 s12 s13 s14;have ih:(fun s0 k4 s12 s13 s14=>evLP E_z78 n (sub C_z78 [1,1,1,0,1,0,0]) K (qsT s0 k4 s12 s13 s14))=qmp (qnS K) (qkA K) n:=by
  funext s0 k4 s12 s13 s14;exact IH s0 k4 s12 s13 s14
 show _=qeF (qnS K) (qkA K) (qmp (qnS K) (qkA K) n) n s0 k4 s12 s13 s14;rw [← ih];kernel_rfl
theorem qpX (n:Nat) (s0:List UInt8) (k4:Int×(Int×(Bool×Unit))):(qnT n) (.exit 0) (frOf [(0,da s0),(4,(.pbox (.ppair (.leaf (.int .i64)) (.ppair (.leaf (.int .i64)) (.ppair (.leaf .bool) (.leaf .unit)))) k4 none))])=qgY n s0 k4:=by
 kernel_rfl
theorem qGk (n:Nat) (s0:List UInt8) (o0:Lab):evFnP E_z78 n C_z78 R_z78 [db s0 o0]=qBr n s0:=by
 unfold qBr;rw [show qmp qkR (qgY n) n=(fun s0 k4 s12 s13 s14=>evLP E_z78 n (sub C_z78 [1,1,1,0,1,0,0]) (qnT n) (qsT s0 k4 s12 s13 s14)) from by
  funext s0 k4 s12 s13 s14;refine Eq.trans ?_ (qwH (qnT n) n s0 k4 s12 s13 s14).symm;rw [show (qkA (qnT n))=(qgY n) from by
   funext s0 k4;exact qpX n s0 k4]
  all_goals kernel_rfl]
 kernel_rfl
theorem qwI:ql G Tryz.prog 78 s_z78:=by
 refine qK G_stays (E:=E_z78) (fn:=Tryz.f78) (c:=C_z78) (qo rfl qbZ) (fun w S hg=>⟨⟨qf,fun f sp h=>qaJ f sp h w S⟩,qaL w S hg,(fun f sp h=>(qcW (qsS w S hg) qfR) f sp h),(fun f sp h=>qbj f sp h),(fun f it h=>qbk f it h),(fun t kt vt h=>qaK t kt vt h)⟩) follows Tryz.func78 (by kernel_rfl) (by kernel_rfl) (by kernel_rfl) ?_;intro avs r h;unfold s_z78 at h;split at h
 ·obtain ⟨hp,rfl⟩:=yj h;obtain ⟨n,hn⟩:=qAq _ hp;exact ⟨n,_,(qGk n _ _).trans hn,.inl rfl⟩
 ·cases h
def E_z54:EnvP:=eQ [(76,s_z76),(77,s_z77),(78,s_z78)] 43 (some [4]) (fun x=>if x=2 then some [0,1] else none) (fun x=>if x=0 then some [1] else if x=1 then some [0,1] else if x=2 then some [0,1] else none) nP
def C_z54:Code:=cO Tryz.f54
def R_z54:Array ResultVar:=Tryz.f54.results
noncomputable def qkB (K:Ex→Fr→Option AV):=fun at1=>K (.exit 0) (frOf [(1,dc at1)])
noncomputable def qnU (K:Ex→Fr→Option AV):=fun s4=>K .ret (frOf [(4,dc s4)])
def qnV (n:Nat):Ex→Fr→Option AV:=qw 0 (E_z54.cutb 0) (kSeq (evCP E_z54 (evLP E_z54 n) (sub C_z54 [1,1,1])) (kFnP E_z54 R_z54))
def qsU (s0:List UInt8) (at1:Int):Fr:=frOf [(0,da s0),(1,dc at1)]
theorem qwJ (K:Ex→Fr→Option AV):∀ (n:Nat) (s0:List UInt8) (at1:Int),evLP E_z54 n (sub C_z54 [1,1,0,0,0]) K (qsU s0 at1)=qmq (qnU K) (qkB K) n s0 at1:=by
 intro n;induction n with
 | zero=>intros; rfl
 | succ n IH =>
 intro s0 at1;have ih:(fun s0 at1=>evLP E_z54 n (sub C_z54 [1,1,0,0,0]) K (qsU s0 at1))=qmq (qnU K) (qkB K) n:=by
  funext s0 at1;exact IH s0 at1
 show _=qjn (qnU K) (qkB K) (qmq (qnU K) (qkB K) n) n s0 at1;rw [← ih];kernel_rfl
theorem qpY (n:Nat) (at1:Int):(qnV n) (.exit 0) (frOf [(1,dc at1)])=qgZ n at1:=by
 kernel_rfl
theorem qGl (n:Nat) (s0:List UInt8) (o0:Lab) (at1:Int) (o1:Lab):evFnP E_z54 n C_z54 R_z54 [db s0 o0,de at1 o1]=qBs n s0 at1:=by
 unfold qBs;rw [show qmq qhK (qgZ n) n=(fun s0 at1=>evLP E_z54 n (sub C_z54 [1,1,0,0,0]) (qnV n) (qsU s0 at1)) from by
  funext s0 at1;refine Eq.trans ?_ (qwJ (qnV n) n s0 at1).symm;rw [show (qkB (qnV n))=(qgZ n) from by
   funext at1;exact qpY n at1]
  all_goals kernel_rfl]
 kernel_rfl
theorem qfC:ql G Tryz.prog 54 s_z54:=by
 refine sQ (E:=E_z54) (c:=C_z54) rfl (fun w S hg=>(qb (qfB w S hg) (qb (qfA w S hg) (qb (qwI w S hg) qf)))) Tryz.func54 ?_;intro avs r h;unfold s_z54 at h;split at h
 ·obtain ⟨hp,rfl⟩:=yj h;obtain ⟨n,hn⟩:=qAs _ _ hp;exact ⟨n,_,(qGl n _ _ _ _).trans hn,.inl rfl⟩
 ·cases h
def E_z75:EnvP:=eQ [] 46 (some [2,3,4]) (fun x=>if x=6 then some [5,6,19,20,21] else none) (fun x=>if x=0 then some [] else if x=1 then some [5,6,19,20,21] else if x=2 then some [5,6,19,20,21] else none) nP
def C_z75:Code:=cO Tryz.f75
def R_z75:Array ResultVar:=Tryz.f75.results
noncomputable def qnW (K:Ex→Fr→Option AV):=fun s2 s3 s4=>K .ret (frOf [(2,(db s2 (some (2,5)))),(3,dc s3),(4,dc s4)])
def qnX (n:Nat):Ex→Fr→Option AV:=qw 0 (E_z75.cutb 0) (kSeq (evCP E_z75 (evLP E_z75 n) (sub C_z75 [1,1,1,1,1])) (kFnP E_z75 R_z75))
def qsV (out5:List UInt8) (taken6:Bool) (s19:List UInt8) (s20:Int) (s21:Int):Fr:=frOf [(5,(db out5 (some (5,5)))),(6,dg taken6),(19,da s19),(20,dc s20),(21,dc s21)]
theorem qwK (K:Ex→Fr→Option AV):∀ (n:Nat) (out5:List UInt8) (taken6:Bool) (s19:List UInt8) (s20:Int) (s21:Int),evLP E_z75 n (sub C_z75 [1,1,1,1,0,1,0,0]) K (qsV out5 taken6 s19 s20 s21)=qjo (qnW K) (K (.exit 0) (frOf [])) n out5 taken6 s19 s20 s21:=by
 intro n;induction n with
 | zero=>intros; rfl
 | succ n IH =>
 intro out5 taken6 s19 s20 s21;have ih:(fun out5 taken6 s19 s20 s21=>evLP E_z75 n (sub C_z75 [1,1,1,1,0,1,0,0]) K (qsV out5 taken6 s19 s20 s21))=qjo (qnW K) (K (.exit 0) (frOf [])) n:=by
  funext out5 taken6 s19 s20 s21;exact IH out5 taken6 s19 s20 s21
 show _=qaM (qnW K) (K (.exit 0) (frOf [])) (qjo (qnW K) (K (.exit 0) (frOf [])) n) n out5 taken6 s19 s20 s21;rw [← ih];kernel_rfl
theorem qpZ (n:Nat)  : (qnX n) (.exit 0) (frOf [])=qeG n  := by
 kernel_rfl
theorem qGm (n:Nat) (s0:List UInt8) (o0:Lab):evFnP E_z75 n C_z75 R_z75 [db s0 o0]=qxG n s0:=by
 unfold qxG;rw [show qjo qfd (qeG n) n=(fun out5 taken6 s19 s20 s21=>evLP E_z75 n (sub C_z75 [1,1,1,1,0,1,0,0]) (qnX n) (qsV out5 taken6 s19 s20 s21)) from by
  funext out5 taken6 s19 s20 s21;refine Eq.trans ?_ (qwK (qnX n) n out5 taken6 s19 s20 s21).symm;rw [show ((qnX n) (.exit 0) (frOf []))=(qeG n) from by
   exact qpZ n ]
  all_goals kernel_rfl]
 kernel_rfl
theorem qnY:ql G Tryz.prog 75 s_z75:=by
 refine sQ (E:=E_z75) (c:=C_z75) rfl (fun w S hg=>qf) Tryz.func75 ?_;intro avs r h;unfold s_z75 at h;split at h
 ·obtain ⟨hp,rfl⟩:=yj h;obtain ⟨n,hn⟩:=qAv _ hp;exact ⟨n,_,(qGm n _ _).trans hn,.inl rfl⟩
 ·cases h
def E_z52:EnvP:=eQ [(54,s_z54),(75,s_z75)] 26 (some [2]) nC (fun x=>if x=0 then some [] else none) nP
def C_z52:Code:=cO Tryz.f52
def R_z52:Array ResultVar:=Tryz.f52.results
theorem qGn (n:Nat) (s0:List UInt8) (o0:Lab):evFnP E_z52 n C_z52 R_z52 [db s0 o0]=qBt n s0:=by
 kernel_rfl
theorem qwL:ql G Tryz.prog 52 s_z52:=by
 refine sQ (E:=E_z52) (c:=C_z52) rfl (fun w S hg=>(qb (qfC w S hg) (qb (qnY w S hg) qf))) Tryz.func52 ?_;intro avs r h;unfold s_z52 at h;split at h
 ·obtain ⟨hp,rfl⟩:=yj h;obtain ⟨n,hn⟩:=qAz _ hp;exact ⟨n,_,(qGn n _ _).trans hn,.inl rfl⟩
 ·cases h
def E_z31:EnvP:=eQ [(43,s_z43),(52,s_z52)] 36 (some [2]) (fun x=>if x=3 then some [0,3,4] else none) (fun x=>if x=0 then some [0,3] else if x=1 then some [0,3,4] else none) nP
def C_z31:Code:=cO Tryz.f31
def R_z31:Array ResultVar:=Tryz.f31.results
noncomputable def qkC (K:Ex→Fr→Option AV):=fun s0 l3=>K (.exit 0) (frOf [(0,da s0),(3,(.dat (.sl (.sl .byte)) l3 (some (3,22))))])
def qnZ (n:Nat):Ex→Fr→Option AV:=qw 0 (E_z31.cutb 0) (kSeq (evCP E_z31 (evLP E_z31 n) (sub C_z31 [1,0,1,1,1,1])) (kFnP E_z31 R_z31))
def qsW (s0:List UInt8) (l3:List (List UInt8)) (at4:Int):Fr:=frOf [(0,da s0),(3,(.dat (.sl (.sl .byte)) l3 (some (3,22)))),(4,dc at4)]
theorem qwM (K:Ex→Fr→Option AV):∀ (n:Nat) (s0:List UInt8) (l3:List (List UInt8)) (at4:Int),evLP E_z31 n (sub C_z31 [1,0,1,1,1,0,0,0]) K (qsW s0 l3 at4)=qkT (qkC K) n s0 l3 at4:=by
 intro n;induction n with
 | zero=>intros; rfl
 | succ n IH =>
 intro s0 l3 at4;have ih:(fun s0 l3 at4=>evLP E_z31 n (sub C_z31 [1,0,1,1,1,0,0,0]) K (qsW s0 l3 at4))=qkT (qkC K) n:=by
  funext s0 l3 at4;exact IH s0 l3 at4
 show _=qjp (qkC K) (qkT (qkC K) n) n s0 l3 at4;rw [← ih];kernel_rfl
theorem qqa (n:Nat) (s0:List UInt8) (l3:List (List UInt8)):(qnZ n) (.exit 0) (frOf [(0,da s0),(3,(.dat (.sl (.sl .byte)) l3 (some (3,22))))])=qdj n s0 l3:=by
 kernel_rfl
theorem qGo (n:Nat) (s0:List UInt8) (o0:Lab):evFnP E_z31 n C_z31 R_z31 [db s0 o0]=qBu n s0:=by
 unfold qBu;rw [show qkT (qdj n) n=(fun s0 l3 at4=>evLP E_z31 n (sub C_z31 [1,0,1,1,1,0,0,0]) (qnZ n) (qsW s0 l3 at4)) from by
  funext s0 l3 at4;refine Eq.trans ?_ (qwM (qnZ n) n s0 l3 at4).symm;rw [show (qkC (qnZ n))=(qdj n) from by
   funext s0 l3;exact qqa n s0 l3]
  all_goals kernel_rfl]
 kernel_rfl
theorem qwN:ql G Tryz.prog 31 s_z31:=by
 refine sQ (E:=E_z31) (c:=C_z31) rfl (fun w S hg=>(qb (qdN w S hg) (qb (qwL w S hg) qf))) Tryz.func31 ?_;intro avs r h;unfold s_z31 at h;split at h
 ·obtain ⟨hp,rfl⟩:=yj h;obtain ⟨n,hn⟩:=qAE _ hp;exact ⟨n,_,(qGo n _ _).trans hn,.inl rfl⟩
 ·cases h
end
end Go.Av
