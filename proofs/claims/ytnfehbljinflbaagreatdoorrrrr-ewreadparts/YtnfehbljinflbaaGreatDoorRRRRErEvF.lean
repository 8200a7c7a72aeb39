import Derived.Test.YtnfehbljinflbaaGreatDoorRRRRErEvE
import Derived.Test.YtnfehbljinflbaaGreatDoorRRRREtN
import Derived.Test.YtnfehbljinflbaaGreatDoorRRRRProg
import Derived.KernelRfl
namespace Go.Av
noncomputable section
open Go.Proofs
set_option maxRecDepth 100000
def qRM:EnvP:=eQ [] 4 (none) nC nC (fun x=>if x=1 then some (.leaf (.sl .byte)) else none)
def qRN:Code:=cO Tryz.f163
def qUE:Array ResultVar:=Tryz.f163.results
theorem qRO (n:Nat) (s0:LU) (o0:Lab):evFnR qRM n qRN qUE [db s0 o0]=qSM n s0:=by
 kernel_rfl
theorem qBK:qLr G Tryz.prog 163 s_z163:=by
 refine qiE G_stays (E:=qRM) (fn:=Tryz.f163) (c:=qRN) (qj rfl qbd) (fun w S hg=>⟨⟨qc,fun f sp h=>qac f sp h w S⟩,qai w S hg,(fun _ _ h=>by cases h),(fun f sp h=>qaC f sp h),(fun f it h=>qaD f it h),(fun t kt vt h=>qah t kt vt h)⟩) follows Tryz.func163 (by kernel_rfl) (by kernel_rfl) (by kernel_rfl) ?_;intro avs r h;unfold s_z163 at h;split at h
 ·simp only [yb,true_and] at h;subst h;exact ⟨0,qRO 0 _ _⟩
 ·cases h
def qRP:EnvP:=⟨⟨tiOf tis,fnsOf [],cnsOf [],[],39,(fun x=>if x=2000005 then some [4,5,6] else none),(fun x=>if x=0 then some [4,6] else if x=1 then some [1043,1044,1045] else none),some [1000002,3]⟩,(fun x=>if x=4 then some (.osl 5 .byte) else if x=5 then some (.leaf (.int .i64)) else if x=6 then some (.leaf (.int .i64)) else if x=25 then some (.osl 5 .byte) else if x=31 then some (.osl 5 .byte) else none),fun _=>none,fun _=>[],fun _=>none,(fun x=>if x=163 then some s_z163 else none),(fun x=>if x=173 then some qJU else none),fun _=>none⟩
def qRQ:Code:=cO Tryz.f137
def qUF:Array ResultVar:=Tryz.f137.results
theorem qRR (n:Nat) (s0:LU) (o0:Lab):evFnP qRP n qRQ qUF [db s0 o0]=qDA n s0:=by
 kernel_rfl
theorem qBL:qe G Tryz.prog 137 s_z137:=by
 refine qB G_stays (E:=qRP) (fn:=Tryz.f137) (c:=qRQ) (qj rfl qbd) (fun w S hg=>⟨⟨qc,fun f sp h=>qac f sp h w S⟩,qai w S hg,(fun _ _ h=>by cases h),(fun f sp h=>(qyX (qBK w S hg) qaC) f sp h),(fun f it h=>(qKW (qBJ w S hg) qaD) f it h),(fun t kt vt h=>qah t kt vt h)⟩) follows Tryz.func137 (by kernel_rfl) (by kernel_rfl) (by kernel_rfl) ?_;intro avs r h;unfold s_z137 at h;split at h
 ·obtain ⟨hp,rfl⟩:=yj h;obtain ⟨n,hn⟩:=qJi _ hp;exact ⟨n,_,(qRR n _ _).trans hn,.inl rfl⟩
 ·cases h
def qRS:EnvP:=eQ [(137,s_z137)] 11 (some [2]) nC nC nP
def qRT:Code:=cO Tryz.f107
def qUG:Array ResultVar:=Tryz.f107.results
theorem qRU (n:Nat) (s0:LU) (o0:Lab):evFnP qRS n qRT qUG [db s0 o0]=qDC n s0:=by
 kernel_rfl
theorem qBM:qe G Tryz.prog 107 s_z107:=by
 refine sQ (E:=qRS) (c:=qRT) rfl (fun w S hg=>(qa (qBL w S hg) qc)) Tryz.func107 ?_;intro avs r h;unfold s_z107 at h;split at h
 ·obtain ⟨hp,rfl⟩:=yj h;obtain ⟨n,hn⟩:=qJj _ hp;exact ⟨n,_,(qRU n _ _).trans hn,.inl rfl⟩
 ·cases h
def qRV:EnvP:=eQ [(124,s_z124)] 11 (some [2]) nC nC nP
def qRW:Code:=cO Tryz.f108
def qUH:Array ResultVar:=Tryz.f108.results
theorem qRX (n:Nat) (s0:LU) (o0:Lab):evFnP qRV n qRW qUH [db s0 o0]=qDE n s0:=by
 kernel_rfl
theorem qBN:qe G Tryz.prog 108 s_z108:=by
 refine sQ (E:=qRV) (c:=qRW) rfl (fun w S hg=>(qa (qpN w S hg) qc)) Tryz.func108 ?_;intro avs r h;unfold s_z108 at h;split at h
 ·obtain ⟨hp,rfl⟩:=yj h;obtain ⟨n,hn⟩:=qJf _ hp;exact ⟨n,_,(qRX n _ _).trans hn,.inl rfl⟩
 ·cases h
def E_z64:EnvP:=eQ [(107,s_z107),(108,s_z108)] 12 (some [2]) nC nC nP
def C_z64:Code:=cO Tryz.f64
def R_z64:Array ResultVar:=Tryz.f64.results
theorem qUI (n:Nat) (w0:LU×(Int×(LU×Unit))) (o0:Lab):evFnP E_z64 n C_z64 R_z64 [.dat (.pair (.sl .byte) (.pair (.int .i64) (.pair (.sl .byte) .unit))) w0 o0]=qMG n w0:=by
 kernel_rfl
theorem qGR:qe G Tryz.prog 64 s_z64:=by
 refine sQ (E:=E_z64) (c:=C_z64) rfl (fun w S hg=>(qa (qBM w S hg) (qa (qBN w S hg) qc))) Tryz.func64 ?_;intro avs r h;unfold s_z64 at h;split at h
 ·obtain ⟨hp,rfl⟩:=yj h;obtain ⟨n,hn⟩:=qNV _ hp;exact ⟨n,_,(qUI n _ _).trans hn,.inl rfl⟩
 ·cases h
def E_z39:EnvP:=eQ [(51,s_z51),(52,s_z52),(63,s_z63),(64,s_z64)] 18 (some [1000002,3]) nC nC nP
def C_z39:Code:=cO Tryz.f39
def R_z39:Array ResultVar:=Tryz.f39.results
theorem qUJ (n:Nat) (s0:LU) (o0:Lab):evFnP E_z39 n C_z39 R_z39 [db s0 o0]=qMH n s0:=by
 kernel_rfl
theorem qGS:qe G Tryz.prog 39 s_z39:=by
 refine sQ (E:=E_z39) (c:=C_z39) rfl (fun w S hg=>(qa (qij w S hg) (qa (quG w S hg) (qa (qGQ w S hg) (qa (qGR w S hg) qc))))) Tryz.func39 ?_;intro avs r h;unfold s_z39 at h;split at h
 ·obtain ⟨hp,rfl⟩:=yj h;obtain ⟨n,hn⟩:=qOt _ hp;exact ⟨n,_,(qUJ n _ _).trans hn,.inl rfl⟩
 ·cases h
def E_z50:EnvP:=⟨⟨tiOf tis,fnsOf [],cnsOf [],[],12,(fun _=>none),(fun _=>none),some [14]⟩,fun _=>none,fun _=>none,fun _=>[],(fun x=>if x=30 then some s_z30 else if x=32 then some s_z32 else none),fun _=>none,fun _=>none,(fun x=>if x=52 then some (52,52) else none)⟩
def C_z50:Code:=cO Tryz.f50
def R_z50:Array ResultVar:=Tryz.f50.results
theorem qGT (n:Nat) (p0:Int×(LU×Unit)) (o0:Lab) (x1:LI) (o1:Lab) (x2:Int):evFnM E_z50 n C_z50 R_z50 [.dat (.pair (.int .i64) (.pair (.sl .byte) .unit)) p0 o0,.dat (.sl (.int .i32)) x1 o1,.fn 1000000007 [.fn 32 [.pbox (.leaf (.int .i64)) x2 none]]]=qon n p0 x1 x2:=by
 kernel_rfl
theorem qGU (n:Nat) (p0:Int×(LU×Unit)) (o0:Lab) (x1:LI) (o1:Lab) (x2:LI):evFnM E_z50 n C_z50 R_z50 [.dat (.pair (.int .i64) (.pair (.sl .byte) .unit)) p0 o0,.dat (.sl (.int .i32)) x1 o1,.fn 1000000007 [.fn 30 [.pbox (.osl 3 (.int .i64)) x2 none]]]=qoo n p0 x1 x2:=by
 kernel_rfl
theorem qGV:qhN G Tryz.prog 50 s_z50:=by
 refine qT G_stays (E:=E_z50) (fn:=Tryz.f50) (c:=C_z50) (qj rfl qbd) (fun w S hg=>⟨⟨qc,fun f sp h=>qac f sp h w S⟩,qai w S hg,(fun f sp h=>(qbi (qGx w S hg) (qbi (qGE w S hg) qfh)) f sp h),(fun _ _ h=>by cases h),(fun _ _ h=>by cases h),(fun t kt vt h=>(qEJ Tryz.underlying52 qah) t kt vt h)⟩) follows Tryz.func50 (by kernel_rfl) (by kernel_rfl) (by kernel_rfl) ?_;intro avs r h;unfold s_z50 at h;split at h
 ·obtain ⟨hp,rfl⟩:=yj h;obtain ⟨n,hn⟩:=qys _ _ _ hp;exact ⟨n,(qGT n _ _ _ _ _).trans hn⟩
 ·simp only [yb] at h;obtain ⟨hp,rfl⟩:=h;obtain ⟨n,hn⟩:=qyt _ _ _ hp;exact ⟨n,(qGU n _ _ _ _ _).trans hn⟩
 ·cases h
def E_z20:EnvP:=⟨⟨tiOf tis,fnsOf [(37,s_z37),(38,s_z38),(39,s_z39)],cnsOf [],[],35,(fun x=>if x=1 then some [1,9,10,11,36] else none),(fun x=>if x=0 then some [36] else if x=1 then some [1,9,10,11,36] else none),some [36]⟩,fun _=>none,fun _=>none,fun _=>[],(fun x=>if x=21 then some s_z21 else if x=28 then some s_z28 else if x=50 then some s_z50 else none),fun _=>none,fun _=>none,fun _=>none⟩
def C_z20:Code:=cO Tryz.f20
def R_z20:Array ResultVar:=Tryz.f20.results
noncomputable def qpZ (K:Ex→Fr→OA):=fun s36=>K (.exit 0) (frOf [(36,(.pbox (.osl 21 (.int .i32)) s36 none))])
def quO (s0:LU) (f1:LI):Ex→Fr→OA:=qg 0 (E_z20.cutb 0) (kFnM E_z20 R_z20 [db s0 none,.fn 21 [.pbox (.osl 21 (.int .i32)) f1 none]])
def qBO (s9:List (Int×(LU×Unit))) (s10:Int) (s11:Int) (s36:LI):Fr:=frOf [(1,(.padr 36 [.clo 21 false])),(9,(.dat (.sl (.pair (.int .i64) (.pair (.sl .byte) .unit))) s9 (some (9,41)))),(10,dc s10),(11,dc s11),(36,(.pbox (.osl 21 (.int .i32)) s36 none))]
theorem qsx (K:Ex→Fr→OA):∀ (n:Nat) (s9:List (Int×(LU×Unit))) (s10:Int) (s11:Int) (s36:LI),evLP E_z20 n (sub C_z20 [1,0,0]) K (qBO s9 s10 s11 s36)=qdb (qpZ K) n s9 s10 s11 s36:=by
 intro n;induction n with
 | zero=>intros; rfl
 | succ n IH =>
 intro s9 s10 s11 s36;have ih:(fun s9 s10 s11 s36=>evLP E_z20 n (sub C_z20 [1,0,0]) K (qBO s9 s10 s11 s36))=qdb (qpZ K) n:=by
  funext s9 s10 s11 s36;exact IH s9 s10 s11 s36
 show _=qby (qpZ K) (qdb (qpZ K) n) n s9 s10 s11 s36;rw [← ih];kernel_rfl
theorem qnI (s0:LU) (f1:LI) (n:Nat) (s36:LI):(quO s0 f1) (.exit 0) (frOf [(36,(.pbox (.osl 21 (.int .i32)) s36 none))])=qcH n s36:=by
 kernel_rfl
theorem qGW (n:Nat) (s0:LU) (o0:Lab) (f1:LI):evFnM E_z20 n C_z20 R_z20 [db s0 o0,.fn 21 [.pbox (.osl 21 (.int .i32)) f1 none]]=qix n s0 f1:=by
 unfold qix;rw [show qdb (qcH n) n=(fun s9 s10 s11 s36=>evLP E_z20 n (sub C_z20 [1,0,0]) (quO s0 f1) (qBO s9 s10 s11 s36)) from by
  funext s9 s10 s11 s36;refine Eq.trans ?_ (qsx (quO s0 f1) n s9 s10 s11 s36).symm;rw [show (qpZ (quO s0 f1))=(qcH n) from by
   funext s36;exact qnI s0 f1 n s36]
  all_goals kernel_rfl]
 kernel_rfl
theorem qsy (K:Ex→Fr→OA):∀ (n:Nat) (s9:List (Int×(LU×Unit))) (s10:Int) (s11:Int) (s36:List LI),evLP E_z20 n (sub C_z20 [1,0,0]) K (frOf [(1,(.padr 36 [.clo 28 false])),(9,(.dat (.sl (.pair (.int .i64) (.pair (.sl .byte) .unit))) s9 (some (9,41)))),(10,dc s10),(11,dc s11),(36,(.pbox (.osl 25 (.sl (.int .i32))) s36 none))])=qdc (fun s36=>K (.exit 0) (frOf [(36,(.pbox (.osl 25 (.sl (.int .i32))) s36 none))])) n s9 s10 s11 s36:=by
 intro n;induction n with
 | zero=>intros; rfl
 | succ n IH =>
 intro s9 s10 s11 s36;have ih:(fun s9 s10 s11 s36=>evLP E_z20 n (sub C_z20 [1,0,0]) K (frOf [(1,(.padr 36 [.clo 28 false])),(9,(.dat (.sl (.pair (.int .i64) (.pair (.sl .byte) .unit))) s9 (some (9,41)))),(10,dc s10),(11,dc s11),(36,(.pbox (.osl 25 (.sl (.int .i32))) s36 none))]))=qdc (fun s36=>K (.exit 0) (frOf [(36,(.pbox (.osl 25 (.sl (.int .i32))) s36 none))])) n:=by
  funext s9 s10 s11 s36;exact IH s9 s10 s11 s36
 show _=qbz (fun s36=>K (.exit 0) (frOf [(36,(.pbox (.osl 25 (.sl (.int .i32))) s36 none))])) (qdc (fun s36=>K (.exit 0) (frOf [(36,(.pbox (.osl 25 (.sl (.int .i32))) s36 none))])) n) n s9 s10 s11 s36;rw [← ih];kernel_rfl
theorem qnJ (s0:LU) (f1:List LI) (n:Nat) (s36:List LI):(qg 0 (E_z20.cutb 0) (kFnM E_z20 R_z20 [db s0 none,.fn 28 [.pbox (.osl 25 (.sl (.int .i32))) f1 none]])) (.exit 0) (frOf [(36,(.pbox (.osl 25 (.sl (.int .i32))) s36 none))])=qcI n s36:=by
 kernel_rfl
theorem qGX (n:Nat) (s0:LU) (o0:Lab) (f1:List LI):evFnM E_z20 n C_z20 R_z20 [db s0 o0,.fn 28 [.pbox (.osl 25 (.sl (.int .i32))) f1 none]]=qiy n s0 f1:=by
 unfold qiy;rw [show qdc (qcI n) n=(fun s9 s10 s11 s36=>evLP E_z20 n (sub C_z20 [1,0,0]) (qg 0 (E_z20.cutb 0) (kFnM E_z20 R_z20 [db s0 none,.fn 28 [.pbox (.osl 25 (.sl (.int .i32))) f1 none]])) (frOf [(1,(.padr 36 [.clo 28 false])),(9,(.dat (.sl (.pair (.int .i64) (.pair (.sl .byte) .unit))) s9 (some (9,41)))),(10,dc s10),(11,dc s11),(36,(.pbox (.osl 25 (.sl (.int .i32))) s36 none))])) from by
  funext s9 s10 s11 s36;refine Eq.trans ?_ (qsy (qg 0 (E_z20.cutb 0) (kFnM E_z20 R_z20 [db s0 none,.fn 28 [.pbox (.osl 25 (.sl (.int .i32))) f1 none]])) n s9 s10 s11 s36).symm;rw [show (fun s36=>(qg 0 (E_z20.cutb 0) (kFnM E_z20 R_z20 [db s0 none,.fn 28 [.pbox (.osl 25 (.sl (.int .i32))) f1 none]])) (.exit 0) (frOf [(36,(.pbox (.osl 25 (.sl (.int .i32))) s36 none))]))=(qcI n) from by
   funext s36;exact qnJ s0 f1 n s36]
  all_goals kernel_rfl]
 kernel_rfl
theorem qsz (K:Ex→Fr→OA):∀ (n:Nat) (s9:List (Int×(LU×Unit))) (s10:Int) (s11:Int) (s36:Int),evLP E_z20 n (sub C_z20 [1,0,0]) K (frOf [(1,(.padr 36 [.clo 50 false,.cel,.clo 32 false])),(9,(.dat (.sl (.pair (.int .i64) (.pair (.sl .byte) .unit))) s9 (some (9,41)))),(10,dc s10),(11,dc s11),(36,(.pbox (.leaf (.int .i64)) s36 none))])=qdd (fun s36=>K (.exit 0) (frOf [(36,(.pbox (.leaf (.int .i64)) s36 none))])) n s9 s10 s11 s36:=by
 intro n;induction n with
 | zero=>intros; rfl
 | succ n IH =>
 intro s9 s10 s11 s36;have ih:(fun s9 s10 s11 s36=>evLP E_z20 n (sub C_z20 [1,0,0]) K (frOf [(1,(.padr 36 [.clo 50 false,.cel,.clo 32 false])),(9,(.dat (.sl (.pair (.int .i64) (.pair (.sl .byte) .unit))) s9 (some (9,41)))),(10,dc s10),(11,dc s11),(36,(.pbox (.leaf (.int .i64)) s36 none))]))=qdd (fun s36=>K (.exit 0) (frOf [(36,(.pbox (.leaf (.int .i64)) s36 none))])) n:=by
  funext s9 s10 s11 s36;exact IH s9 s10 s11 s36
 show _=qbA (fun s36=>K (.exit 0) (frOf [(36,(.pbox (.leaf (.int .i64)) s36 none))])) (qdd (fun s36=>K (.exit 0) (frOf [(36,(.pbox (.leaf (.int .i64)) s36 none))])) n) n s9 s10 s11 s36;rw [← ih];kernel_rfl
theorem qnK (s0:LU) (f1:Int) (n:Nat) (s36:Int):(qg 0 (E_z20.cutb 0) (kFnM E_z20 R_z20 [db s0 none,.fn 50 [.fn 1000000007 [.fn 32 [.pbox (.leaf (.int .i64)) f1 none]]]])) (.exit 0) (frOf [(36,(.pbox (.leaf (.int .i64)) s36 none))])=qcJ n s36:=by
 kernel_rfl
theorem qGY (n:Nat) (s0:LU) (o0:Lab) (f1:Int):evFnM E_z20 n C_z20 R_z20 [db s0 o0,.fn 50 [.fn 1000000007 [.fn 32 [.pbox (.leaf (.int .i64)) f1 none]]]]=qiz n s0 f1:=by
 unfold qiz;rw [show qdd (qcJ n) n=(fun s9 s10 s11 s36=>evLP E_z20 n (sub C_z20 [1,0,0]) (qg 0 (E_z20.cutb 0) (kFnM E_z20 R_z20 [db s0 none,.fn 50 [.fn 1000000007 [.fn 32 [.pbox (.leaf (.int .i64)) f1 none]]]])) (frOf [(1,(.padr 36 [.clo 50 false,.cel,.clo 32 false])),(9,(.dat (.sl (.pair (.int .i64) (.pair (.sl .byte) .unit))) s9 (some (9,41)))),(10,dc s10),(11,dc s11),(36,(.pbox (.leaf (.int .i64)) s36 none))])) from by
  funext s9 s10 s11 s36;refine Eq.trans ?_ (qsz (qg 0 (E_z20.cutb 0) (kFnM E_z20 R_z20 [db s0 none,.fn 50 [.fn 1000000007 [.fn 32 [.pbox (.leaf (.int .i64)) f1 none]]]])) n s9 s10 s11 s36).symm;rw [show (fun s36=>(qg 0 (E_z20.cutb 0) (kFnM E_z20 R_z20 [db s0 none,.fn 50 [.fn 1000000007 [.fn 32 [.pbox (.leaf (.int .i64)) f1 none]]]])) (.exit 0) (frOf [(36,(.pbox (.leaf (.int .i64)) s36 none))]))=(qcJ n) from by
   funext s36;exact qnK s0 f1 n s36]
  all_goals kernel_rfl]
 kernel_rfl
theorem qsA (K:Ex→Fr→OA):∀ (n:Nat) (s9:List (Int×(LU×Unit))) (s10:Int) (s11:Int) (s36:LI),evLP E_z20 n (sub C_z20 [1,0,0]) K (frOf [(1,(.padr 36 [.clo 50 false,.cel,.clo 30 false])),(9,(.dat (.sl (.pair (.int .i64) (.pair (.sl .byte) .unit))) s9 (some (9,41)))),(10,dc s10),(11,dc s11),(36,(.pbox (.osl 3 (.int .i64)) s36 none))])=qde (fun s36=>K (.exit 0) (frOf [(36,(.pbox (.osl 3 (.int .i64)) s36 none))])) n s9 s10 s11 s36:=by
 intro n;induction n with
 | zero=>intros; rfl
 | succ n IH =>
 intro s9 s10 s11 s36;have ih:(fun s9 s10 s11 s36=>evLP E_z20 n (sub C_z20 [1,0,0]) K (frOf [(1,(.padr 36 [.clo 50 false,.cel,.clo 30 false])),(9,(.dat (.sl (.pair (.int .i64) (.pair (.sl .byte) .unit))) s9 (some (9,41)))),(10,dc s10),(11,dc s11),(36,(.pbox (.osl 3 (.int .i64)) s36 none))]))=qde (fun s36=>K (.exit 0) (frOf [(36,(.pbox (.osl 3 (.int .i64)) s36 none))])) n:=by
  funext s9 s10 s11 s36;exact IH s9 s10 s11 s36
 show _=qbB (fun s36=>K (.exit 0) (frOf [(36,(.pbox (.osl 3 (.int .i64)) s36 none))])) (qde (fun s36=>K (.exit 0) (frOf [(36,(.pbox (.osl 3 (.int .i64)) s36 none))])) n) n s9 s10 s11 s36;rw [← ih];kernel_rfl
theorem qnL (s0:LU) (f1:LI) (n:Nat) (s36:LI):(qg 0 (E_z20.cutb 0) (kFnM E_z20 R_z20 [db s0 none,.fn 50 [.fn 1000000007 [.fn 30 [.pbox (.osl 3 (.int .i64)) f1 none]]]])) (.exit 0) (frOf [(36,(.pbox (.osl 3 (.int .i64)) s36 none))])=qcK n s36:=by
 kernel_rfl
theorem qGZ (n:Nat) (s0:LU) (o0:Lab) (f1:LI):evFnM E_z20 n C_z20 R_z20 [db s0 o0,.fn 50 [.fn 1000000007 [.fn 30 [.pbox (.osl 3 (.int .i64)) f1 none]]]]=qiA n s0 f1:=by
 unfold qiA;rw [show qde (qcK n) n=(fun s9 s10 s11 s36=>evLP E_z20 n (sub C_z20 [1,0,0]) (qg 0 (E_z20.cutb 0) (kFnM E_z20 R_z20 [db s0 none,.fn 50 [.fn 1000000007 [.fn 30 [.pbox (.osl 3 (.int .i64)) f1 none]]]])) (frOf [(1,(.padr 36 [.clo 50 false,.cel,.clo 30 false])),(9,(.dat (.sl (.pair (.int .i64) (.pair (.sl .byte) .unit))) s9 (some (9,41)))),(10,dc s10),(11,dc s11),(36,(.pbox (.osl 3 (.int .i64)) s36 none))])) from by
  funext s9 s10 s11 s36;refine Eq.trans ?_ (qsA (qg 0 (E_z20.cutb 0) (kFnM E_z20 R_z20 [db s0 none,.fn 50 [.fn 1000000007 [.fn 30 [.pbox (.osl 3 (.int .i64)) f1 none]]]])) n s9 s10 s11 s36).symm;rw [show (fun s36=>(qg 0 (E_z20.cutb 0) (kFnM E_z20 R_z20 [db s0 none,.fn 50 [.fn 1000000007 [.fn 30 [.pbox (.osl 3 (.int .i64)) f1 none]]]])) (.exit 0) (frOf [(36,(.pbox (.osl 3 (.int .i64)) s36 none))]))=(qcK n) from by
   funext s36;exact qnL s0 f1 n s36]
  all_goals kernel_rfl]
 kernel_rfl
theorem qnM:qhN G Tryz.prog 20 s_z20:=by
 refine qT G_stays (E:=E_z20) (fn:=Tryz.f20) (c:=C_z20) (qj rfl qbd) (fun w S hg=>⟨⟨(qa (qGM w S hg) (qa (quN w S hg) (qa (qGS w S hg) qc))),fun f sp h=>qac f sp h w S⟩,qai w S hg,(fun f sp h=>(qbi (qGi w S hg) (qbi (qGj w S hg) (qbi (qGV w S hg) qfh))) f sp h),(fun _ _ h=>by cases h),(fun _ _ h=>by cases h),(fun t kt vt h=>qah t kt vt h)⟩) follows Tryz.func20 (by kernel_rfl) (by kernel_rfl) (by kernel_rfl) ?_;intro avs r h;unfold s_z20 at h;split at h
 ·obtain ⟨hp,rfl⟩:=yj h;obtain ⟨n,hn⟩:=qyu _ _ hp;exact ⟨n,(qGW n _ _ _).trans hn⟩
 ·simp only [yb] at h;obtain ⟨hp,rfl⟩:=h;obtain ⟨n,hn⟩:=qyv _ _ hp;exact ⟨n,(qGX n _ _ _).trans hn⟩
 ·simp only [yb] at h;obtain ⟨hp,rfl⟩:=h;obtain ⟨n,hn⟩:=qyw _ _ hp;exact ⟨n,(qGY n _ _ _).trans hn⟩
 ·simp only [yb] at h;obtain ⟨hp,rfl⟩:=h;obtain ⟨n,hn⟩:=qyx _ _ hp;exact ⟨n,(qGZ n _ _ _).trans hn⟩
 ·cases h
def E_z11:EnvP:=⟨⟨tiOf tis,fnsOf [],cnsOf [],[],8,(fun _=>none),(fun _=>none),some [2]⟩,(fun x=>if x=3 then some (.osl 21 (.int .i32)) else none),fun _=>none,fun _=>[],(fun x=>if x=20 then some s_z20 else none),fun _=>none,fun _=>none,fun _=>none⟩
def C_z11:Code:=cO Tryz.f11
def R_z11:Array ResultVar:=Tryz.f11.results
theorem qUK (n:Nat) (s0:LU) (o0:Lab):evFnP E_z11 n C_z11 R_z11 [db s0 o0]=qMI n s0:=by
 kernel_rfl
theorem qHa:qe G Tryz.prog 11 s_z11:=by
 refine qB G_stays (E:=E_z11) (fn:=Tryz.f11) (c:=C_z11) (qj rfl qbd) (fun w S hg=>⟨⟨qc,fun f sp h=>qac f sp h w S⟩,qai w S hg,(fun f sp h=>(qbi (qnM w S hg) qfh) f sp h),(fun f sp h=>qaC f sp h),(fun f it h=>qaD f it h),(fun t kt vt h=>qah t kt vt h)⟩) follows Tryz.func11 (by kernel_rfl) (by kernel_rfl) (by kernel_rfl) ?_;intro avs r h;unfold s_z11 at h;split at h
 ·obtain ⟨hp,rfl⟩:=yj h;obtain ⟨n,hn⟩:=qMd _ hp;exact ⟨n,_,(qUK n _ _).trans hn,.inl rfl⟩
 ·cases h
def E_z35:EnvP:=eQ [(57,s_z57)] 23 (some [4,1000005,6]) nC nC nP
def C_z35:Code:=cO Tryz.f35
def R_z35:Array ResultVar:=Tryz.f35.results
theorem qUL (n:Nat) (s0:LU) (o0:Lab) (sep1:LU) (o1:Lab):evFnP E_z35 n C_z35 R_z35 [db s0 o0,db sep1 o1]=qMJ n s0 sep1:=by
 kernel_rfl
theorem qHb:qe G Tryz.prog 35 s_z35:=by
 refine sQ (E:=E_z35) (c:=C_z35) rfl (fun w S hg=>(qa (qmP w S hg) qc)) Tryz.func35 ?_;intro avs r h;unfold s_z35 at h;split at h
 ·obtain ⟨hp,rfl⟩:=yj h;obtain ⟨n,hn⟩:=qOK _ _ hp;exact ⟨n,_,(qUL n _ _ _ _).trans hn,.inl rfl⟩
 ·cases h
def E_z19:EnvP:=eQ [(35,s_z35),(36,s_z36)] 34 (some [2]) (fun x=>if x=2 then some [0,3] else none) (fun x=>if x=0 then some [2] else if x=1 then some [0,3] else none) nP
def C_z19:Code:=cO Tryz.f19
def R_z19:Array ResultVar:=Tryz.f19.results
noncomputable def quP (K:Ex→Fr→OA):=fun s2=>K .ret (frOf [(2,(db s2 (some (2,5))))])
def qBP (s0:LU) (out3:LU):Fr:=frOf [(0,da s0),(3,(db out3 (some (3,5))))]
theorem qHc (K:Ex→Fr→OA):∀ (n:Nat) (s0:LU) (out3:LU),evLP E_z19 n (sub C_z19 [1,1,0,0]) K (qBP s0 out3)=qoq (quP K) n s0 out3:=by
 intro n;induction n with
 | zero=>intros; rfl
 | succ n IH =>
 intro s0 out3;have ih:(fun s0 out3=>evLP E_z19 n (sub C_z19 [1,1,0,0]) K (qBP s0 out3))=qoq (quP K) n:=by
  funext s0 out3;exact IH s0 out3
 show _=qop (quP K) (qoq (quP K) n) n s0 out3;rw [← ih];kernel_rfl
theorem qUM (n:Nat) (s0:LU) (o0:Lab):evFnP E_z19 n C_z19 R_z19 [db s0 o0]=qMK n s0:=by
 unfold qMK;rw [show qoq qvP n=(fun s0 out3=>evLP E_z19 n (sub C_z19 [1,1,0,0]) (qg 0 (E_z19.cutb 0) (kFnP E_z19 R_z19)) (qBP s0 out3)) from by
  funext s0 out3;refine Eq.trans ?_ (qHc (qg 0 (E_z19.cutb 0) (kFnP E_z19 R_z19)) n s0 out3).symm;all_goals kernel_rfl]
 kernel_rfl
theorem qnN:qe G Tryz.prog 19 s_z19:=by
 refine sQ (E:=E_z19) (c:=C_z19) rfl (fun w S hg=>(qa (qHb w S hg) (qa (qmU w S hg) qc))) Tryz.func19 ?_;intro avs r h;unfold s_z19 at h;split at h
 ·obtain ⟨hp,rfl⟩:=yj h;obtain ⟨n,hn⟩:=qOO _ hp;exact ⟨n,_,(qUM n _ _).trans hn,.inl rfl⟩
 ·cases h
def E_z9:EnvP:=eQ [(11,s_z11),(19,s_z19)] 6 (some [2]) nC nC nP
def C_z9:Code:=cO Tryz.f9
def R_z9:Array ResultVar:=Tryz.f9.results
theorem z9_ev (n:Nat) (s0:LU) (o0:Lab):evFnP E_z9 n C_z9 R_z9 [db s0 o0]=z9_sh n s0:=by
 kernel_rfl
theorem qLT:qe G Tryz.prog 9 s_z9:=by
 refine sQ (E:=E_z9) (c:=C_z9) rfl (fun w S hg=>(qa (qHa w S hg) (qa (qnN w S hg) qc))) Tryz.func9 ?_;intro avs r h;unfold s_z9 at h;split at h
 ·obtain ⟨hp,rfl⟩:=yj h;obtain ⟨n,hn⟩:=qSF _ hp;exact ⟨n,_,(z9_ev n _ _).trans hn,.inl rfl⟩
 ·cases h
def E_z15:EnvP:=⟨⟨tiOf tis,fnsOf [(19,s_z19)],cnsOf [],[],9,(fun _=>none),(fun _=>none),some [2]⟩,(fun x=>if x=3 then some (.osl 25 (.sl (.int .i32))) else none),fun _=>none,fun _=>[],(fun x=>if x=20 then some s_z20 else none),fun _=>none,fun _=>none,fun _=>none⟩
def C_z15:Code:=cO Tryz.f15
def R_z15:Array ResultVar:=Tryz.f15.results
theorem qUN (n:Nat) (s0:LU) (o0:Lab):evFnP E_z15 n C_z15 R_z15 [db s0 o0]=qML n s0:=by
 kernel_rfl
theorem quQ:qe G Tryz.prog 15 s_z15:=by
 refine qB G_stays (E:=E_z15) (fn:=Tryz.f15) (c:=C_z15) (qj rfl qbd) (fun w S hg=>⟨⟨(qa (qnN w S hg) qc),fun f sp h=>qac f sp h w S⟩,qai w S hg,(fun f sp h=>(qbi (qnM w S hg) qfh) f sp h),(fun f sp h=>qaC f sp h),(fun f it h=>qaD f it h),(fun t kt vt h=>qah t kt vt h)⟩) follows Tryz.func15 (by kernel_rfl) (by kernel_rfl) (by kernel_rfl) ?_;intro avs r h;unfold s_z15 at h;split at h
 ·obtain ⟨hp,rfl⟩:=yj h;obtain ⟨n,hn⟩:=qMe _ hp;exact ⟨n,_,(qUN n _ _).trans hn,.inl rfl⟩
 ·cases h
def E_z29:EnvP:=⟨⟨tiOf tis,fnsOf [(19,s_z19)],cnsOf [],[],8,(fun _=>none),(fun _=>none),some [9]⟩,fun _=>none,fun _=>none,fun _=>[],(fun x=>if x=20 then some s_z20 else none),fun _=>none,fun _=>none,fun _=>none⟩
def C_z29:Code:=cO Tryz.f29
def R_z29:Array ResultVar:=Tryz.f29.results
theorem qHd (n:Nat) (s0:LU) (o0:Lab) (f1:Int):evFnM E_z29 n C_z29 R_z29 [db s0 o0,.fn 32 [.pbox (.leaf (.int .i64)) f1 none]]=qor n s0 f1:=by
 kernel_rfl
theorem qHe (n:Nat) (s0:LU) (o0:Lab) (f1:LI):evFnM E_z29 n C_z29 R_z29 [db s0 o0,.fn 30 [.pbox (.osl 3 (.int .i64)) f1 none]]=qos n s0 f1:=by
 kernel_rfl
theorem quR:qhN G Tryz.prog 29 s_z29:=by
 refine qT G_stays (E:=E_z29) (fn:=Tryz.f29) (c:=C_z29) (qj rfl qbd) (fun w S hg=>⟨⟨(qa (qnN w S hg) qc),fun f sp h=>qac f sp h w S⟩,qai w S hg,(fun f sp h=>(qbi (qnM w S hg) qfh) f sp h),(fun _ _ h=>by cases h),(fun _ _ h=>by cases h),(fun t kt vt h=>qah t kt vt h)⟩) follows Tryz.func29 (by kernel_rfl) (by kernel_rfl) (by kernel_rfl) ?_;intro avs r h;unfold s_z29 at h;split at h
 ·obtain ⟨hp,rfl⟩:=yj h;obtain ⟨n,hn⟩:=qyy _ _ hp;exact ⟨n,(qHd n _ _ _).trans hn⟩
 ·simp only [yb] at h;obtain ⟨hp,rfl⟩:=h;obtain ⟨n,hn⟩:=qyz _ _ hp;exact ⟨n,(qHe n _ _ _).trans hn⟩
 ·cases h
def E_z16:EnvP:=⟨⟨tiOf tis,fnsOf [],cnsOf [],[],8,(fun _=>none),(fun _=>none),some [2]⟩,(fun x=>if x=3 then some (.osl 3 (.int .i64)) else none),fun _=>none,fun _=>[],(fun x=>if x=29 then some s_z29 else none),fun _=>none,fun _=>none,fun _=>none⟩
def C_z16:Code:=cO Tryz.f16
def R_z16:Array ResultVar:=Tryz.f16.results
theorem qUO (n:Nat) (s0:LU) (o0:Lab):evFnP E_z16 n C_z16 R_z16 [db s0 o0]=qMM n s0:=by
 kernel_rfl
theorem quS:qe G Tryz.prog 16 s_z16:=by
 refine qB G_stays (E:=E_z16) (fn:=Tryz.f16) (c:=C_z16) (qj rfl qbd) (fun w S hg=>⟨⟨qc,fun f sp h=>qac f sp h w S⟩,qai w S hg,(fun f sp h=>(qbi (quR w S hg) qfh) f sp h),(fun f sp h=>qaC f sp h),(fun f it h=>qaD f it h),(fun t kt vt h=>qah t kt vt h)⟩) follows Tryz.func16 (by kernel_rfl) (by kernel_rfl) (by kernel_rfl) ?_;intro avs r h;unfold s_z16 at h;split at h
 ·obtain ⟨hp,rfl⟩:=yj h;obtain ⟨n,hn⟩:=qMg _ hp;exact ⟨n,_,(qUO n _ _).trans hn,.inl rfl⟩
 ·cases h
def E_z17:EnvP:=⟨⟨tiOf tis,fnsOf [],cnsOf [],[],8,(fun _=>none),(fun _=>none),some [2]⟩,(fun x=>if x=3 then some (.leaf (.int .i64)) else none),fun _=>none,fun _=>[],(fun x=>if x=29 then some s_z29 else none),fun _=>none,fun _=>none,fun _=>none⟩
def C_z17:Code:=cO Tryz.f17
def R_z17:Array ResultVar:=Tryz.f17.results
theorem qUP (n:Nat) (s0:LU) (o0:Lab):evFnP E_z17 n C_z17 R_z17 [db s0 o0]=qMN n s0:=by
 kernel_rfl
theorem quT:qe G Tryz.prog 17 s_z17:=by
 refine qB G_stays (E:=E_z17) (fn:=Tryz.f17) (c:=C_z17) (qj rfl qbd) (fun w S hg=>⟨⟨qc,fun f sp h=>qac f sp h w S⟩,qai w S hg,(fun f sp h=>(qbi (quR w S hg) qfh) f sp h),(fun f sp h=>qaC f sp h),(fun f it h=>qaD f it h),(fun t kt vt h=>qah t kt vt h)⟩) follows Tryz.func17 (by kernel_rfl) (by kernel_rfl) (by kernel_rfl) ?_;intro avs r h;unfold s_z17 at h;split at h
 ·obtain ⟨hp,rfl⟩:=yj h;obtain ⟨n,hn⟩:=qMf _ hp;exact ⟨n,_,(qUP n _ _).trans hn,.inl rfl⟩
 ·cases h
end
end Go.Av
