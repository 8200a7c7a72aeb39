import Derived.Test.YtnfehbljinflbaaGreatDoorRRRRErEvH
import Derived.Test.YtnfehbljinflbaaGreatDoorRRRREtN
import Derived.Test.YtnfehbljinflbaaGreatDoorRRRRProg
import Derived.KernelRfl
namespace Go.Av
set_option linter.unusedSimpArgs false
noncomputable section
open Go.Proofs
set_option maxRecDepth 100000
set_option linter.unusedVariables false
def E_z50:EnvP:=⟨⟨tiOf tis,fnsOf [],cnsOf [],[],12,(fun _=>none),(fun _=>none),some [14]⟩,fun _=>none,fun _=>none,fun _=>[],(fun x=>if x=30 then some s_z30 else if x=32 then some s_z32 else none),fun _=>none,fun _=>none,(fun x=>if x=52 then some (52,52) else none)⟩
def C_z50:Code:=cO Tryz.f50
def R_z50:Array ResultVar:=Tryz.f50.results
theorem qzq (n:Nat) (p0:Int×((List UInt8)×Unit)) (o0:Lab) (x1:List Int) (o1:Lab) (x2:Int):evFnM E_z50 n C_z50 R_z50 [.dat (.pair (.int .i64) (.pair (.sl .byte) .unit)) p0 o0,.dat (.sl (.int .i32)) x1 o1,.fn 1000000007 [.fn 32 [.pbox (.leaf (.int .i64)) x2 none]]]=qla n p0 x1 x2:=by
 kernel_rfl
theorem qzr (n:Nat) (p0:Int×((List UInt8)×Unit)) (o0:Lab) (x1:List Int) (o1:Lab) (x2:List Int):evFnM E_z50 n C_z50 R_z50 [.dat (.pair (.int .i64) (.pair (.sl .byte) .unit)) p0 o0,.dat (.sl (.int .i32)) x1 o1,.fn 1000000007 [.fn 30 [.pbox (.osl 3 (.int .i64)) x2 none]]]=qlb n p0 x1 x2:=by
 kernel_rfl
theorem qzs:qfR G Tryz.prog 50 s_z50:=by
 refine qP G_stays (E:=E_z50) (fn:=Tryz.f50) (c:=C_z50) (qe rfl qaU) (fun w S hg=>⟨⟨qc,fun f sp h=>qZ f sp h w S⟩,qae w S hg,(fun f sp h=>(qaS (qyU w S hg) (qaS (qzb w S hg) qec)) f sp h),(fun _ _ h=>by cases h),(fun _ _ h=>by cases h),(fun t kt vt h=>(qxA Tryz.underlying52 qaa) t kt vt h)⟩) follows Tryz.func50 (by kernel_rfl) (by kernel_rfl) (by kernel_rfl) ?_;intro avs r h;unfold s_z50 at h;split at h
 ·obtain ⟨hp,rfl⟩:=yj h;obtain ⟨n,hn⟩:=qsf _ _ _ hp;exact ⟨n,(qzq n _ _ _ _ _).trans hn⟩
 ·simp only [yb] at h;obtain ⟨hp,rfl⟩:=h;obtain ⟨n,hn⟩:=qsg _ _ _ hp;exact ⟨n,(qzr n _ _ _ _ _).trans hn⟩
 ·cases h
def E_z20:EnvP:=⟨⟨tiOf tis,fnsOf [(37,s_z37),(38,s_z38),(39,s_z39)],cnsOf [],[],35,(fun x=>if x=1 then some [1,9,10,11,36] else none),(fun x=>if x=0 then some [36] else if x=1 then some [1,9,10,11,36] else none),some [36]⟩,fun _=>none,fun _=>none,fun _=>[],(fun x=>if x=21 then some s_z21 else if x=28 then some s_z28 else if x=50 then some s_z50 else none),fun _=>none,fun _=>none,fun _=>none⟩
def C_z20:Code:=cO Tryz.f20
def R_z20:Array ResultVar:=Tryz.f20.results
noncomputable def qmq (K:Ex→Fr→Option AV):=fun s36=>K (.exit 0) (frOf [(36,(.pbox (.osl 21 (.int .i32)) s36 none))])
def qpY (s0:List UInt8) (f1:List Int):Ex→Fr→Option AV:=qm 0 (E_z20.cutb 0) (kFnM E_z20 R_z20 [db s0 none,.fn 21 [.pbox (.osl 21 (.int .i32)) f1 none]])
def qvu (s9:List (Int×((List UInt8)×Unit))) (s10:Int) (s11:Int) (s36:List Int):Fr:=frOf [(1,(.padr 36 [.clo 21 false])),(9,(.dat (.sl (.pair (.int .i64) (.pair (.sl .byte) .unit))) s9 (some (9,41)))),(10,dc s10),(11,dc s11),(36,(.pbox (.osl 21 (.int .i32)) s36 none))]
theorem qog (K:Ex→Fr→Option AV):∀ (n:Nat) (s9:List (Int×((List UInt8)×Unit))) (s10:Int) (s11:Int) (s36:List Int),evLP E_z20 n (sub C_z20 [1,0,0]) K (qvu s9 s10 s11 s36)=qcw (qmq K) n s9 s10 s11 s36:=by
 intro n;induction n with
 | zero=>intros; rfl
 | succ n IH =>
 intro s9 s10 s11 s36;have ih:(fun s9 s10 s11 s36=>evLP E_z20 n (sub C_z20 [1,0,0]) K (qvu s9 s10 s11 s36))=qcw (qmq K) n:=by
  funext s9 s10 s11 s36;exact IH s9 s10 s11 s36
 show _=qbj (qmq K) (qcw (qmq K) n) n s9 s10 s11 s36;rw [← ih];kernel_rfl
theorem qkJ (s0:List UInt8) (f1:List Int) (n:Nat) (s36:List Int):(qpY s0 f1) (.exit 0) (frOf [(36,(.pbox (.osl 21 (.int .i32)) s36 none))])=qcf n s36:=by
 kernel_rfl
theorem qzt (n:Nat) (s0:List UInt8) (o0:Lab) (f1:List Int):evFnM E_z20 n C_z20 R_z20 [db s0 o0,.fn 21 [.pbox (.osl 21 (.int .i32)) f1 none]]=qgA n s0 f1:=by
 unfold qgA;rw [show qcw (qcf n) n=(fun s9 s10 s11 s36=>evLP E_z20 n (sub C_z20 [1,0,0]) (qpY s0 f1) (qvu s9 s10 s11 s36)) from by
  funext s9 s10 s11 s36;refine Eq.trans ?_ (qog (qpY s0 f1) n s9 s10 s11 s36).symm;rw [show (qmq (qpY s0 f1))=(qcf n) from by
   funext s36;exact qkJ s0 f1 n s36]
  all_goals kernel_rfl]
 kernel_rfl
theorem qoh (K:Ex→Fr→Option AV):∀ (n:Nat) (s9:List (Int×((List UInt8)×Unit))) (s10:Int) (s11:Int) (s36:List (List Int)),evLP E_z20 n (sub C_z20 [1,0,0]) K (frOf [(1,(.padr 36 [.clo 28 false])),(9,(.dat (.sl (.pair (.int .i64) (.pair (.sl .byte) .unit))) s9 (some (9,41)))),(10,dc s10),(11,dc s11),(36,(.pbox (.osl 25 (.sl (.int .i32))) s36 none))])=qcx (fun s36=>K (.exit 0) (frOf [(36,(.pbox (.osl 25 (.sl (.int .i32))) s36 none))])) n s9 s10 s11 s36:=by
 intro n;induction n with
 | zero=>intros; rfl
 | succ n IH =>
 intro s9 s10 s11 s36;have ih:(fun s9 s10 s11 s36=>evLP E_z20 n (sub C_z20 [1,0,0]) K (frOf [(1,(.padr 36 [.clo 28 false])),(9,(.dat (.sl (.pair (.int .i64) (.pair (.sl .byte) .unit))) s9 (some (9,41)))),(10,dc s10),(11,dc s11),(36,(.pbox (.osl 25 (.sl (.int .i32))) s36 none))]))=qcx (fun s36=>K (.exit 0) (frOf [(36,(.pbox (.osl 25 (.sl (.int .i32))) s36 none))])) n:=by
  funext s9 s10 s11 s36;exact IH s9 s10 s11 s36
 show _=qbk (fun s36=>K (.exit 0) (frOf [(36,(.pbox (.osl 25 (.sl (.int .i32))) s36 none))])) (qcx (fun s36=>K (.exit 0) (frOf [(36,(.pbox (.osl 25 (.sl (.int .i32))) s36 none))])) n) n s9 s10 s11 s36;rw [← ih];kernel_rfl
theorem qkK (s0:List UInt8) (f1:List (List Int)) (n:Nat) (s36:List (List Int)):(qm 0 (E_z20.cutb 0) (kFnM E_z20 R_z20 [db s0 none,.fn 28 [.pbox (.osl 25 (.sl (.int .i32))) f1 none]])) (.exit 0) (frOf [(36,(.pbox (.osl 25 (.sl (.int .i32))) s36 none))])=qcg n s36:=by
 kernel_rfl
theorem qzu (n:Nat) (s0:List UInt8) (o0:Lab) (f1:List (List Int)):evFnM E_z20 n C_z20 R_z20 [db s0 o0,.fn 28 [.pbox (.osl 25 (.sl (.int .i32))) f1 none]]=qgB n s0 f1:=by
 unfold qgB;rw [show qcx (qcg n) n=(fun s9 s10 s11 s36=>evLP E_z20 n (sub C_z20 [1,0,0]) (qm 0 (E_z20.cutb 0) (kFnM E_z20 R_z20 [db s0 none,.fn 28 [.pbox (.osl 25 (.sl (.int .i32))) f1 none]])) (frOf [(1,(.padr 36 [.clo 28 false])),(9,(.dat (.sl (.pair (.int .i64) (.pair (.sl .byte) .unit))) s9 (some (9,41)))),(10,dc s10),(11,dc s11),(36,(.pbox (.osl 25 (.sl (.int .i32))) s36 none))])) from by
  funext s9 s10 s11 s36;refine Eq.trans ?_ (qoh (qm 0 (E_z20.cutb 0) (kFnM E_z20 R_z20 [db s0 none,.fn 28 [.pbox (.osl 25 (.sl (.int .i32))) f1 none]])) n s9 s10 s11 s36).symm;rw [show (fun s36=>(qm 0 (E_z20.cutb 0) (kFnM E_z20 R_z20 [db s0 none,.fn 28 [.pbox (.osl 25 (.sl (.int .i32))) f1 none]])) (.exit 0) (frOf [(36,(.pbox (.osl 25 (.sl (.int .i32))) s36 none))]))=(qcg n) from by
   funext s36;exact qkK s0 f1 n s36]
  all_goals kernel_rfl]
 kernel_rfl
theorem qoi (K:Ex→Fr→Option AV):∀ (n:Nat) (s9:List (Int×((List UInt8)×Unit))) (s10:Int) (s11:Int) (s36:Int),evLP E_z20 n (sub C_z20 [1,0,0]) K (frOf [(1,(.padr 36 [.clo 50 false,.cel,.clo 32 false])),(9,(.dat (.sl (.pair (.int .i64) (.pair (.sl .byte) .unit))) s9 (some (9,41)))),(10,dc s10),(11,dc s11),(36,(.pbox (.leaf (.int .i64)) s36 none))])=qcy (fun s36=>K (.exit 0) (frOf [(36,(.pbox (.leaf (.int .i64)) s36 none))])) n s9 s10 s11 s36:=by
 intro n;induction n with
 | zero=>intros; rfl
 | succ n IH =>
 intro s9 s10 s11 s36;have ih:(fun s9 s10 s11 s36=>evLP E_z20 n (sub C_z20 [1,0,0]) K (frOf [(1,(.padr 36 [.clo 50 false,.cel,.clo 32 false])),(9,(.dat (.sl (.pair (.int .i64) (.pair (.sl .byte) .unit))) s9 (some (9,41)))),(10,dc s10),(11,dc s11),(36,(.pbox (.leaf (.int .i64)) s36 none))]))=qcy (fun s36=>K (.exit 0) (frOf [(36,(.pbox (.leaf (.int .i64)) s36 none))])) n:=by
  funext s9 s10 s11 s36;exact IH s9 s10 s11 s36
 show _=qbl (fun s36=>K (.exit 0) (frOf [(36,(.pbox (.leaf (.int .i64)) s36 none))])) (qcy (fun s36=>K (.exit 0) (frOf [(36,(.pbox (.leaf (.int .i64)) s36 none))])) n) n s9 s10 s11 s36;rw [← ih];kernel_rfl
theorem qkL (s0:List UInt8) (f1:Int) (n:Nat) (s36:Int):(qm 0 (E_z20.cutb 0) (kFnM E_z20 R_z20 [db s0 none,.fn 50 [.fn 1000000007 [.fn 32 [.pbox (.leaf (.int .i64)) f1 none]]]])) (.exit 0) (frOf [(36,(.pbox (.leaf (.int .i64)) s36 none))])=qch n s36:=by
 kernel_rfl
theorem qzv (n:Nat) (s0:List UInt8) (o0:Lab) (f1:Int):evFnM E_z20 n C_z20 R_z20 [db s0 o0,.fn 50 [.fn 1000000007 [.fn 32 [.pbox (.leaf (.int .i64)) f1 none]]]]=qgC n s0 f1:=by
 unfold qgC;rw [show qcy (qch n) n=(fun s9 s10 s11 s36=>evLP E_z20 n (sub C_z20 [1,0,0]) (qm 0 (E_z20.cutb 0) (kFnM E_z20 R_z20 [db s0 none,.fn 50 [.fn 1000000007 [.fn 32 [.pbox (.leaf (.int .i64)) f1 none]]]])) (frOf [(1,(.padr 36 [.clo 50 false,.cel,.clo 32 false])),(9,(.dat (.sl (.pair (.int .i64) (.pair (.sl .byte) .unit))) s9 (some (9,41)))),(10,dc s10),(11,dc s11),(36,(.pbox (.leaf (.int .i64)) s36 none))])) from by
  funext s9 s10 s11 s36;refine Eq.trans ?_ (qoi (qm 0 (E_z20.cutb 0) (kFnM E_z20 R_z20 [db s0 none,.fn 50 [.fn 1000000007 [.fn 32 [.pbox (.leaf (.int .i64)) f1 none]]]])) n s9 s10 s11 s36).symm;rw [show (fun s36=>(qm 0 (E_z20.cutb 0) (kFnM E_z20 R_z20 [db s0 none,.fn 50 [.fn 1000000007 [.fn 32 [.pbox (.leaf (.int .i64)) f1 none]]]])) (.exit 0) (frOf [(36,(.pbox (.leaf (.int .i64)) s36 none))]))=(qch n) from by
   funext s36;exact qkL s0 f1 n s36]
  all_goals kernel_rfl]
 kernel_rfl
theorem qoj (K:Ex→Fr→Option AV):∀ (n:Nat) (s9:List (Int×((List UInt8)×Unit))) (s10:Int) (s11:Int) (s36:List Int),evLP E_z20 n (sub C_z20 [1,0,0]) K (frOf [(1,(.padr 36 [.clo 50 false,.cel,.clo 30 false])),(9,(.dat (.sl (.pair (.int .i64) (.pair (.sl .byte) .unit))) s9 (some (9,41)))),(10,dc s10),(11,dc s11),(36,(.pbox (.osl 3 (.int .i64)) s36 none))])=qcz (fun s36=>K (.exit 0) (frOf [(36,(.pbox (.osl 3 (.int .i64)) s36 none))])) n s9 s10 s11 s36:=by
 intro n;induction n with
 | zero=>intros; rfl
 | succ n IH =>
 intro s9 s10 s11 s36;have ih:(fun s9 s10 s11 s36=>evLP E_z20 n (sub C_z20 [1,0,0]) K (frOf [(1,(.padr 36 [.clo 50 false,.cel,.clo 30 false])),(9,(.dat (.sl (.pair (.int .i64) (.pair (.sl .byte) .unit))) s9 (some (9,41)))),(10,dc s10),(11,dc s11),(36,(.pbox (.osl 3 (.int .i64)) s36 none))]))=qcz (fun s36=>K (.exit 0) (frOf [(36,(.pbox (.osl 3 (.int .i64)) s36 none))])) n:=by
  funext s9 s10 s11 s36;exact IH s9 s10 s11 s36
 show _=qbm (fun s36=>K (.exit 0) (frOf [(36,(.pbox (.osl 3 (.int .i64)) s36 none))])) (qcz (fun s36=>K (.exit 0) (frOf [(36,(.pbox (.osl 3 (.int .i64)) s36 none))])) n) n s9 s10 s11 s36;rw [← ih];kernel_rfl
theorem qkM (s0:List UInt8) (f1:List Int) (n:Nat) (s36:List Int):(qm 0 (E_z20.cutb 0) (kFnM E_z20 R_z20 [db s0 none,.fn 50 [.fn 1000000007 [.fn 30 [.pbox (.osl 3 (.int .i64)) f1 none]]]])) (.exit 0) (frOf [(36,(.pbox (.osl 3 (.int .i64)) s36 none))])=qci n s36:=by
 kernel_rfl
theorem qzw (n:Nat) (s0:List UInt8) (o0:Lab) (f1:List Int):evFnM E_z20 n C_z20 R_z20 [db s0 o0,.fn 50 [.fn 1000000007 [.fn 30 [.pbox (.osl 3 (.int .i64)) f1 none]]]]=qgD n s0 f1:=by
 unfold qgD;rw [show qcz (qci n) n=(fun s9 s10 s11 s36=>evLP E_z20 n (sub C_z20 [1,0,0]) (qm 0 (E_z20.cutb 0) (kFnM E_z20 R_z20 [db s0 none,.fn 50 [.fn 1000000007 [.fn 30 [.pbox (.osl 3 (.int .i64)) f1 none]]]])) (frOf [(1,(.padr 36 [.clo 50 false,.cel,.clo 30 false])),(9,(.dat (.sl (.pair (.int .i64) (.pair (.sl .byte) .unit))) s9 (some (9,41)))),(10,dc s10),(11,dc s11),(36,(.pbox (.osl 3 (.int .i64)) s36 none))])) from by
  funext s9 s10 s11 s36;refine Eq.trans ?_ (qoj (qm 0 (E_z20.cutb 0) (kFnM E_z20 R_z20 [db s0 none,.fn 50 [.fn 1000000007 [.fn 30 [.pbox (.osl 3 (.int .i64)) f1 none]]]])) n s9 s10 s11 s36).symm;rw [show (fun s36=>(qm 0 (E_z20.cutb 0) (kFnM E_z20 R_z20 [db s0 none,.fn 50 [.fn 1000000007 [.fn 30 [.pbox (.osl 3 (.int .i64)) f1 none]]]])) (.exit 0) (frOf [(36,(.pbox (.osl 3 (.int .i64)) s36 none))]))=(qci n) from by
   funext s36;exact qkM s0 f1 n s36]
  all_goals kernel_rfl]
 kernel_rfl
theorem qkN:qfR G Tryz.prog 20 s_z20:=by
 refine qP G_stays (E:=E_z20) (fn:=Tryz.f20) (c:=C_z20) (qe rfl qaU) (fun w S hg=>⟨⟨(qb (qzj w S hg) (qb (qpX w S hg) (qb (qzp w S hg) qc))),fun f sp h=>qZ f sp h w S⟩,qae w S hg,(fun f sp h=>(qaS (qyF w S hg) (qaS (qyG w S hg) (qaS (qzs w S hg) qec))) f sp h),(fun _ _ h=>by cases h),(fun _ _ h=>by cases h),(fun t kt vt h=>qaa t kt vt h)⟩) follows Tryz.func20 (by kernel_rfl) (by kernel_rfl) (by kernel_rfl) ?_;intro avs r h;unfold s_z20 at h;split at h
 ·obtain ⟨hp,rfl⟩:=yj h;obtain ⟨n,hn⟩:=qsh _ _ hp;exact ⟨n,(qzt n _ _ _).trans hn⟩
 ·simp only [yb] at h;obtain ⟨hp,rfl⟩:=h;obtain ⟨n,hn⟩:=qsi _ _ hp;exact ⟨n,(qzu n _ _ _).trans hn⟩
 ·simp only [yb] at h;obtain ⟨hp,rfl⟩:=h;obtain ⟨n,hn⟩:=qsj _ _ hp;exact ⟨n,(qzv n _ _ _).trans hn⟩
 ·simp only [yb] at h;obtain ⟨hp,rfl⟩:=h;obtain ⟨n,hn⟩:=qsk _ _ hp;exact ⟨n,(qzw n _ _ _).trans hn⟩
 ·cases h
def E_z11:EnvP:=⟨⟨tiOf tis,fnsOf [],cnsOf [],[],8,(fun _=>none),(fun _=>none),some [2]⟩,(fun x=>if x=3 then some (.osl 21 (.int .i32)) else none),fun _=>none,fun _=>[],(fun x=>if x=20 then some s_z20 else none),fun _=>none,fun _=>none,fun _=>none⟩
def C_z11:Code:=cO Tryz.f11
def R_z11:Array ResultVar:=Tryz.f11.results
theorem qJM (n:Nat) (s0:List UInt8) (o0:Lab):evFnP E_z11 n C_z11 R_z11 [db s0 o0]=qDE n s0:=by
 kernel_rfl
theorem qzx:qf G Tryz.prog 11 s_z11:=by
 refine qB G_stays (E:=E_z11) (fn:=Tryz.f11) (c:=C_z11) (qe rfl qaU) (fun w S hg=>⟨⟨qc,fun f sp h=>qZ f sp h w S⟩,qae w S hg,(fun f sp h=>(qaS (qkN w S hg) qec) f sp h),(fun f sp h=>qat f sp h),(fun f it h=>qau f it h),(fun t kt vt h=>qaa t kt vt h)⟩) follows Tryz.func11 (by kernel_rfl) (by kernel_rfl) (by kernel_rfl) ?_;intro avs r h;unfold s_z11 at h;split at h
 ·obtain ⟨hp,rfl⟩:=yj h;obtain ⟨n,hn⟩:=qDa _ hp;exact ⟨n,_,(qJM n _ _).trans hn,.inl rfl⟩
 ·cases h
def E_z35:EnvP:=eQ [(57,s_z57)] 23 (some [4,1000005,6]) nC nC nP
def C_z35:Code:=cO Tryz.f35
def R_z35:Array ResultVar:=Tryz.f35.results
theorem qJN (n:Nat) (s0:List UInt8) (o0:Lab) (sep1:List UInt8) (o1:Lab):evFnP E_z35 n C_z35 R_z35 [db s0 o0,db sep1 o1]=qDF n s0 sep1:=by
 kernel_rfl
theorem qzy:qf G Tryz.prog 35 s_z35:=by
 refine sQ (E:=E_z35) (c:=C_z35) rfl (fun w S hg=>(qb (qjQ w S hg) qc)) Tryz.func35 ?_;intro avs r h;unfold s_z35 at h;split at h
 ·obtain ⟨hp,rfl⟩:=yj h;obtain ⟨n,hn⟩:=qEA _ _ hp;exact ⟨n,_,(qJN n _ _ _ _).trans hn,.inl rfl⟩
 ·cases h
def E_z19:EnvP:=eQ [(35,s_z35),(36,s_z36)] 34 (some [2]) (fun x=>if x=2 then some [0,3] else none) (fun x=>if x=0 then some [2] else if x=1 then some [0,3] else none) nP
def C_z19:Code:=cO Tryz.f19
def R_z19:Array ResultVar:=Tryz.f19.results
noncomputable def qpZ (K:Ex→Fr→Option AV):=fun s2=>K .ret (frOf [(2,(db s2 (some (2,5))))])
def qvv (s0:List UInt8) (out3:List UInt8):Fr:=frOf [(0,da s0),(3,(db out3 (some (3,5))))]
theorem qzz (K:Ex→Fr→Option AV):∀ (n:Nat) (s0:List UInt8) (out3:List UInt8),evLP E_z19 n (sub C_z19 [1,1,0,0]) K (qvv s0 out3)=qld (qpZ K) n s0 out3:=by
 intro n;induction n with
 | zero=>intros; rfl
 | succ n IH =>
 intro s0 out3;have ih:(fun s0 out3=>evLP E_z19 n (sub C_z19 [1,1,0,0]) K (qvv s0 out3))=qld (qpZ K) n:=by
  funext s0 out3;exact IH s0 out3
 show _=qlc (qpZ K) (qld (qpZ K) n) n s0 out3;rw [← ih];kernel_rfl
theorem qJO (n:Nat) (s0:List UInt8) (o0:Lab):evFnP E_z19 n C_z19 R_z19 [db s0 o0]=qDG n s0:=by
 unfold qDG;rw [show qld qqz n=(fun s0 out3=>evLP E_z19 n (sub C_z19 [1,1,0,0]) (qm 0 (E_z19.cutb 0) (kFnP E_z19 R_z19)) (qvv s0 out3)) from by
  funext s0 out3;refine Eq.trans ?_ (qzz (qm 0 (E_z19.cutb 0) (kFnP E_z19 R_z19)) n s0 out3).symm;all_goals kernel_rfl]
 kernel_rfl
theorem qkO:qf G Tryz.prog 19 s_z19:=by
 refine sQ (E:=E_z19) (c:=C_z19) rfl (fun w S hg=>(qb (qzy w S hg) (qb (qjV w S hg) qc))) Tryz.func19 ?_;intro avs r h;unfold s_z19 at h;split at h
 ·obtain ⟨hp,rfl⟩:=yj h;obtain ⟨n,hn⟩:=qEE _ hp;exact ⟨n,_,(qJO n _ _).trans hn,.inl rfl⟩
 ·cases h
def E_z9:EnvP:=eQ [(11,s_z11),(19,s_z19)] 6 (some [2]) nC nC nP
def C_z9:Code:=cO Tryz.f9
def R_z9:Array ResultVar:=Tryz.f9.results
theorem z9_ev (n:Nat) (s0:List UInt8) (o0:Lab):evFnP E_z9 n C_z9 R_z9 [db s0 o0]=z9_sh n s0:=by
 kernel_rfl
theorem qvw:qf G Tryz.prog 9 s_z9:=by
 refine sQ (E:=E_z9) (c:=C_z9) rfl (fun w S hg=>(qb (qzx w S hg) (qb (qkO w S hg) qc))) Tryz.func9 ?_;intro avs r h;unfold s_z9 at h;split at h
 ·obtain ⟨hp,rfl⟩:=yj h;obtain ⟨n,hn⟩:=qHR _ hp;exact ⟨n,_,(z9_ev n _ _).trans hn,.inl rfl⟩
 ·cases h
def E_z15:EnvP:=⟨⟨tiOf tis,fnsOf [(19,s_z19)],cnsOf [],[],9,(fun _=>none),(fun _=>none),some [2]⟩,(fun x=>if x=3 then some (.osl 25 (.sl (.int .i32))) else none),fun _=>none,fun _=>[],(fun x=>if x=20 then some s_z20 else none),fun _=>none,fun _=>none,fun _=>none⟩
def C_z15:Code:=cO Tryz.f15
def R_z15:Array ResultVar:=Tryz.f15.results
theorem qJP (n:Nat) (s0:List UInt8) (o0:Lab):evFnP E_z15 n C_z15 R_z15 [db s0 o0]=qDH n s0:=by
 kernel_rfl
theorem qzA:qf G Tryz.prog 15 s_z15:=by
 refine qB G_stays (E:=E_z15) (fn:=Tryz.f15) (c:=C_z15) (qe rfl qaU) (fun w S hg=>⟨⟨(qb (qkO w S hg) qc),fun f sp h=>qZ f sp h w S⟩,qae w S hg,(fun f sp h=>(qaS (qkN w S hg) qec) f sp h),(fun f sp h=>qat f sp h),(fun f it h=>qau f it h),(fun t kt vt h=>qaa t kt vt h)⟩) follows Tryz.func15 (by kernel_rfl) (by kernel_rfl) (by kernel_rfl) ?_;intro avs r h;unfold s_z15 at h;split at h
 ·obtain ⟨hp,rfl⟩:=yj h;obtain ⟨n,hn⟩:=qDb _ hp;exact ⟨n,_,(qJP n _ _).trans hn,.inl rfl⟩
 ·cases h
def E_z29:EnvP:=⟨⟨tiOf tis,fnsOf [(19,s_z19)],cnsOf [],[],8,(fun _=>none),(fun _=>none),some [9]⟩,fun _=>none,fun _=>none,fun _=>[],(fun x=>if x=20 then some s_z20 else none),fun _=>none,fun _=>none,fun _=>none⟩
def C_z29:Code:=cO Tryz.f29
def R_z29:Array ResultVar:=Tryz.f29.results
theorem qzB (n:Nat) (s0:List UInt8) (o0:Lab) (f1:Int):evFnM E_z29 n C_z29 R_z29 [db s0 o0,.fn 32 [.pbox (.leaf (.int .i64)) f1 none]]=qle n s0 f1:=by
 kernel_rfl
end
end Go.Av
