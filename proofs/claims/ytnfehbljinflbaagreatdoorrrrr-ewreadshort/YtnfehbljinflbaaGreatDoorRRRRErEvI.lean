import Derived.Test.YtnfehbljinflbaaGreatDoorRRRRErEvH
import Derived.Test.YtnfehbljinflbaaGreatDoorRRRREtN
import Derived.Test.YtnfehbljinflbaaGreatDoorRRRRProg
import Derived.KernelRfl
namespace Go.Av
set_option linter.unusedSimpArgs false
noncomputable section
open Go.Proofs
set_option maxRecDepth 100000
set_option linter.unusedVariables false
theorem qoh (K:Ex→Fr→Option AV):∀ (n:Nat) (s9:List (Int×((List UInt8)×Unit))) (s10:Int) (s11:Int) (s36:List (List Int)),evLP E_z20 n (sub C_z20 [1,0,0]) K (frOf [(1,(.padr 36 [.clo 28 false])),(9,(.dat (.sl (.pair (.int .i64) (.pair (.sl .byte) .unit))) s9 (some (9,41)))),(10,dc s10),(11,dc s11),(36,(.pbox (.osl 25 (.sl (.int .i32))) s36 none))])=qcy (fun s36=>K (.exit 0) (frOf [(36,(.pbox (.osl 25 (.sl (.int .i32))) s36 none))])) n s9 s10 s11 s36:=by
 intro n;induction n with
 | zero=>intros; rfl
 | succ n IH =>
 intro s9 s10 s11 s36;have ih:(fun s9 s10 s11 s36=>evLP E_z20 n (sub C_z20 [1,0,0]) K (frOf [(1,(.padr 36 [.clo 28 false])),(9,(.dat (.sl (.pair (.int .i64) (.pair (.sl .byte) .unit))) s9 (some (9,41)))),(10,dc s10),(11,dc s11),(36,(.pbox (.osl 25 (.sl (.int .i32))) s36 none))]))=qcy (fun s36=>K (.exit 0) (frOf [(36,(.pbox (.osl 25 (.sl (.int .i32))) s36 none))])) n:=by
  funext s9 s10 s11 s36;exact IH s9 s10 s11 s36
 show _=qbi (fun s36=>K (.exit 0) (frOf [(36,(.pbox (.osl 25 (.sl (.int .i32))) s36 none))])) (qcy (fun s36=>K (.exit 0) (frOf [(36,(.pbox (.osl 25 (.sl (.int .i32))) s36 none))])) n) n s9 s10 s11 s36;rw [← ih];kernel_rfl
theorem qkI (s0:List UInt8) (f1:List (List Int)) (n:Nat) (s36:List (List Int)):(qo 0 (E_z20.cutb 0) (kFnM E_z20 R_z20 [db s0 none,.fn 28 [.pbox (.osl 25 (.sl (.int .i32))) f1 none]])) (.exit 0) (frOf [(36,(.pbox (.osl 25 (.sl (.int .i32))) s36 none))])=qcg n s36:=by
 kernel_rfl
theorem qzA (n:Nat) (s0:List UInt8) (o0:Lab) (f1:List (List Int)):evFnM E_z20 n C_z20 R_z20 [db s0 o0,.fn 28 [.pbox (.osl 25 (.sl (.int .i32))) f1 none]]=qgx n s0 f1:=by
 unfold qgx;rw [show qcy (qcg n) n=(fun s9 s10 s11 s36=>evLP E_z20 n (sub C_z20 [1,0,0]) (qo 0 (E_z20.cutb 0) (kFnM E_z20 R_z20 [db s0 none,.fn 28 [.pbox (.osl 25 (.sl (.int .i32))) f1 none]])) (frOf [(1,(.padr 36 [.clo 28 false])),(9,(.dat (.sl (.pair (.int .i64) (.pair (.sl .byte) .unit))) s9 (some (9,41)))),(10,dc s10),(11,dc s11),(36,(.pbox (.osl 25 (.sl (.int .i32))) s36 none))])) from by
  funext s9 s10 s11 s36;refine Eq.trans ?_ (qoh (qo 0 (E_z20.cutb 0) (kFnM E_z20 R_z20 [db s0 none,.fn 28 [.pbox (.osl 25 (.sl (.int .i32))) f1 none]])) n s9 s10 s11 s36).symm;rw [show (fun s36=>(qo 0 (E_z20.cutb 0) (kFnM E_z20 R_z20 [db s0 none,.fn 28 [.pbox (.osl 25 (.sl (.int .i32))) f1 none]])) (.exit 0) (frOf [(36,(.pbox (.osl 25 (.sl (.int .i32))) s36 none))]))=(qcg n) from by
   funext s36;exact qkI s0 f1 n s36]
  all_goals kernel_rfl]
 kernel_rfl
theorem qoi (K:Ex→Fr→Option AV):∀ (n:Nat) (s9:List (Int×((List UInt8)×Unit))) (s10:Int) (s11:Int) (s36:Int),evLP E_z20 n (sub C_z20 [1,0,0]) K (frOf [(1,(.padr 36 [.clo 50 false,.cel,.clo 32 false])),(9,(.dat (.sl (.pair (.int .i64) (.pair (.sl .byte) .unit))) s9 (some (9,41)))),(10,dc s10),(11,dc s11),(36,(.pbox (.leaf (.int .i64)) s36 none))])=qcz (fun s36=>K (.exit 0) (frOf [(36,(.pbox (.leaf (.int .i64)) s36 none))])) n s9 s10 s11 s36:=by
 intro n;induction n with
 | zero=>intros; rfl
 | succ n IH =>
 intro s9 s10 s11 s36;have ih:(fun s9 s10 s11 s36=>evLP E_z20 n (sub C_z20 [1,0,0]) K (frOf [(1,(.padr 36 [.clo 50 false,.cel,.clo 32 false])),(9,(.dat (.sl (.pair (.int .i64) (.pair (.sl .byte) .unit))) s9 (some (9,41)))),(10,dc s10),(11,dc s11),(36,(.pbox (.leaf (.int .i64)) s36 none))]))=qcz (fun s36=>K (.exit 0) (frOf [(36,(.pbox (.leaf (.int .i64)) s36 none))])) n:=by
  funext s9 s10 s11 s36;exact IH s9 s10 s11 s36
 show _=qbj (fun s36=>K (.exit 0) (frOf [(36,(.pbox (.leaf (.int .i64)) s36 none))])) (qcz (fun s36=>K (.exit 0) (frOf [(36,(.pbox (.leaf (.int .i64)) s36 none))])) n) n s9 s10 s11 s36;rw [← ih];kernel_rfl
theorem qkJ (s0:List UInt8) (f1:Int) (n:Nat) (s36:Int):(qo 0 (E_z20.cutb 0) (kFnM E_z20 R_z20 [db s0 none,.fn 50 [.fn 1000000007 [.fn 32 [.pbox (.leaf (.int .i64)) f1 none]]]])) (.exit 0) (frOf [(36,(.pbox (.leaf (.int .i64)) s36 none))])=qch n s36:=by
 kernel_rfl
theorem qzB (n:Nat) (s0:List UInt8) (o0:Lab) (f1:Int):evFnM E_z20 n C_z20 R_z20 [db s0 o0,.fn 50 [.fn 1000000007 [.fn 32 [.pbox (.leaf (.int .i64)) f1 none]]]]=qgy n s0 f1:=by
 unfold qgy;rw [show qcz (qch n) n=(fun s9 s10 s11 s36=>evLP E_z20 n (sub C_z20 [1,0,0]) (qo 0 (E_z20.cutb 0) (kFnM E_z20 R_z20 [db s0 none,.fn 50 [.fn 1000000007 [.fn 32 [.pbox (.leaf (.int .i64)) f1 none]]]])) (frOf [(1,(.padr 36 [.clo 50 false,.cel,.clo 32 false])),(9,(.dat (.sl (.pair (.int .i64) (.pair (.sl .byte) .unit))) s9 (some (9,41)))),(10,dc s10),(11,dc s11),(36,(.pbox (.leaf (.int .i64)) s36 none))])) from by
  funext s9 s10 s11 s36;refine Eq.trans ?_ (qoi (qo 0 (E_z20.cutb 0) (kFnM E_z20 R_z20 [db s0 none,.fn 50 [.fn 1000000007 [.fn 32 [.pbox (.leaf (.int .i64)) f1 none]]]])) n s9 s10 s11 s36).symm;rw [show (fun s36=>(qo 0 (E_z20.cutb 0) (kFnM E_z20 R_z20 [db s0 none,.fn 50 [.fn 1000000007 [.fn 32 [.pbox (.leaf (.int .i64)) f1 none]]]])) (.exit 0) (frOf [(36,(.pbox (.leaf (.int .i64)) s36 none))]))=(qch n) from by
   funext s36;exact qkJ s0 f1 n s36]
  all_goals kernel_rfl]
 kernel_rfl
theorem qoj (K:Ex→Fr→Option AV):∀ (n:Nat) (s9:List (Int×((List UInt8)×Unit))) (s10:Int) (s11:Int) (s36:List Int),evLP E_z20 n (sub C_z20 [1,0,0]) K (frOf [(1,(.padr 36 [.clo 50 false,.cel,.clo 30 false])),(9,(.dat (.sl (.pair (.int .i64) (.pair (.sl .byte) .unit))) s9 (some (9,41)))),(10,dc s10),(11,dc s11),(36,(.pbox (.osl 3 (.int .i64)) s36 none))])=qcA (fun s36=>K (.exit 0) (frOf [(36,(.pbox (.osl 3 (.int .i64)) s36 none))])) n s9 s10 s11 s36:=by
 intro n;induction n with
 | zero=>intros; rfl
 | succ n IH =>
 intro s9 s10 s11 s36;have ih:(fun s9 s10 s11 s36=>evLP E_z20 n (sub C_z20 [1,0,0]) K (frOf [(1,(.padr 36 [.clo 50 false,.cel,.clo 30 false])),(9,(.dat (.sl (.pair (.int .i64) (.pair (.sl .byte) .unit))) s9 (some (9,41)))),(10,dc s10),(11,dc s11),(36,(.pbox (.osl 3 (.int .i64)) s36 none))]))=qcA (fun s36=>K (.exit 0) (frOf [(36,(.pbox (.osl 3 (.int .i64)) s36 none))])) n:=by
  funext s9 s10 s11 s36;exact IH s9 s10 s11 s36
 show _=qbk (fun s36=>K (.exit 0) (frOf [(36,(.pbox (.osl 3 (.int .i64)) s36 none))])) (qcA (fun s36=>K (.exit 0) (frOf [(36,(.pbox (.osl 3 (.int .i64)) s36 none))])) n) n s9 s10 s11 s36;rw [← ih];kernel_rfl
theorem qkK (s0:List UInt8) (f1:List Int) (n:Nat) (s36:List Int):(qo 0 (E_z20.cutb 0) (kFnM E_z20 R_z20 [db s0 none,.fn 50 [.fn 1000000007 [.fn 30 [.pbox (.osl 3 (.int .i64)) f1 none]]]])) (.exit 0) (frOf [(36,(.pbox (.osl 3 (.int .i64)) s36 none))])=qci n s36:=by
 kernel_rfl
theorem qzC (n:Nat) (s0:List UInt8) (o0:Lab) (f1:List Int):evFnM E_z20 n C_z20 R_z20 [db s0 o0,.fn 50 [.fn 1000000007 [.fn 30 [.pbox (.osl 3 (.int .i64)) f1 none]]]]=qgz n s0 f1:=by
 unfold qgz;rw [show qcA (qci n) n=(fun s9 s10 s11 s36=>evLP E_z20 n (sub C_z20 [1,0,0]) (qo 0 (E_z20.cutb 0) (kFnM E_z20 R_z20 [db s0 none,.fn 50 [.fn 1000000007 [.fn 30 [.pbox (.osl 3 (.int .i64)) f1 none]]]])) (frOf [(1,(.padr 36 [.clo 50 false,.cel,.clo 30 false])),(9,(.dat (.sl (.pair (.int .i64) (.pair (.sl .byte) .unit))) s9 (some (9,41)))),(10,dc s10),(11,dc s11),(36,(.pbox (.osl 3 (.int .i64)) s36 none))])) from by
  funext s9 s10 s11 s36;refine Eq.trans ?_ (qoj (qo 0 (E_z20.cutb 0) (kFnM E_z20 R_z20 [db s0 none,.fn 50 [.fn 1000000007 [.fn 30 [.pbox (.osl 3 (.int .i64)) f1 none]]]])) n s9 s10 s11 s36).symm;rw [show (fun s36=>(qo 0 (E_z20.cutb 0) (kFnM E_z20 R_z20 [db s0 none,.fn 50 [.fn 1000000007 [.fn 30 [.pbox (.osl 3 (.int .i64)) f1 none]]]])) (.exit 0) (frOf [(36,(.pbox (.osl 3 (.int .i64)) s36 none))]))=(qci n) from by
   funext s36;exact qkK s0 f1 n s36]
  all_goals kernel_rfl]
 kernel_rfl
theorem qkL:qfO G Tryz.prog 20 s_z20:=by
 refine qP G_stays (E:=E_z20) (fn:=Tryz.f20) (c:=C_z20) (qf rfl qaS) (fun w S hg=>⟨⟨(qb (qzp w S hg) (qb (qpY w S hg) (qb (qzv w S hg) qc))),fun f sp h=>qZ f sp h w S⟩,qae w S hg,(fun f sp h=>(qaQ (qyL w S hg) (qaQ (qyM w S hg) (qaQ (qzy w S hg) qeb))) f sp h),(fun _ _ h=>by cases h),(fun _ _ h=>by cases h),(fun t kt vt h=>qaa t kt vt h)⟩) follows Tryz.func20 (by kernel_rfl) (by kernel_rfl) (by kernel_rfl) ?_;intro avs r h;unfold s_z20 at h;split at h
 ·obtain ⟨hp,rfl⟩:=yj h;obtain ⟨n,hn⟩:=qsk _ _ hp;exact ⟨n,(qzz n _ _ _).trans hn⟩
 ·simp only [yb] at h;obtain ⟨hp,rfl⟩:=h;obtain ⟨n,hn⟩:=qsl _ _ hp;exact ⟨n,(qzA n _ _ _).trans hn⟩
 ·simp only [yb] at h;obtain ⟨hp,rfl⟩:=h;obtain ⟨n,hn⟩:=qsm _ _ hp;exact ⟨n,(qzB n _ _ _).trans hn⟩
 ·simp only [yb] at h;obtain ⟨hp,rfl⟩:=h;obtain ⟨n,hn⟩:=qsn _ _ hp;exact ⟨n,(qzC n _ _ _).trans hn⟩
 ·cases h
def E_z11:EnvP:=⟨⟨tiOf tis,fnsOf [],cnsOf [],[],8,(fun _=>none),(fun _=>none),some [2]⟩,(fun x=>if x=3 then some (.osl 21 (.int .i32)) else none),fun _=>none,fun _=>[],(fun x=>if x=20 then some s_z20 else none),fun _=>none,fun _=>none,fun _=>none⟩
def C_z11:Code:=cO Tryz.f11
def R_z11:Array ResultVar:=Tryz.f11.results
theorem qKh (n:Nat) (s0:List UInt8) (o0:Lab):evFnP E_z11 n C_z11 R_z11 [db s0 o0]=qDT n s0:=by
 kernel_rfl
theorem qzD:qg G Tryz.prog 11 s_z11:=by
 refine qB G_stays (E:=E_z11) (fn:=Tryz.f11) (c:=C_z11) (qf rfl qaS) (fun w S hg=>⟨⟨qc,fun f sp h=>qZ f sp h w S⟩,qae w S hg,(fun f sp h=>(qaQ (qkL w S hg) qeb) f sp h),(fun f sp h=>qat f sp h),(fun f it h=>qau f it h),(fun t kt vt h=>qaa t kt vt h)⟩) follows Tryz.func11 (by kernel_rfl) (by kernel_rfl) (by kernel_rfl) ?_;intro avs r h;unfold s_z11 at h;split at h
 ·obtain ⟨hp,rfl⟩:=yj h;obtain ⟨n,hn⟩:=qDm _ hp;exact ⟨n,_,(qKh n _ _).trans hn,.inl rfl⟩
 ·cases h
def E_z35:EnvP:=eQ [(57,s_z57)] 23 (some [4,1000005,6]) nC nC nP
def C_z35:Code:=cO Tryz.f35
def R_z35:Array ResultVar:=Tryz.f35.results
theorem qKi (n:Nat) (s0:List UInt8) (o0:Lab) (sep1:List UInt8) (o1:Lab):evFnP E_z35 n C_z35 R_z35 [db s0 o0,db sep1 o1]=qDU n s0 sep1:=by
 kernel_rfl
theorem qzE:qg G Tryz.prog 35 s_z35:=by
 refine sQ (E:=E_z35) (c:=C_z35) rfl (fun w S hg=>(qb (qjO w S hg) qc)) Tryz.func35 ?_;intro avs r h;unfold s_z35 at h;split at h
 ·obtain ⟨hp,rfl⟩:=yj h;obtain ⟨n,hn⟩:=qER _ _ hp;exact ⟨n,_,(qKi n _ _ _ _).trans hn,.inl rfl⟩
 ·cases h
def E_z19:EnvP:=eQ [(35,s_z35),(36,s_z36)] 34 (some [2]) (fun x=>if x=2 then some [0,3] else none) (fun x=>if x=0 then some [2] else if x=1 then some [0,3] else none) nP
def C_z19:Code:=cO Tryz.f19
def R_z19:Array ResultVar:=Tryz.f19.results
noncomputable def qqa (K:Ex→Fr→Option AV):=fun s2=>K .ret (frOf [(2,(db s2 (some (2,5))))])
def qvy (s0:List UInt8) (out3:List UInt8):Fr:=frOf [(0,da s0),(3,(db out3 (some (3,5))))]
theorem qzF (K:Ex→Fr→Option AV):∀ (n:Nat) (s0:List UInt8) (out3:List UInt8),evLP E_z19 n (sub C_z19 [1,1,0,0]) K (qvy s0 out3)=qlc (qqa K) n s0 out3:=by
 intro n;induction n with
 | zero=>intros; rfl
 | succ n IH =>
 intro s0 out3;have ih:(fun s0 out3=>evLP E_z19 n (sub C_z19 [1,1,0,0]) K (qvy s0 out3))=qlc (qqa K) n:=by
  funext s0 out3;exact IH s0 out3
 show _=qlb (qqa K) (qlc (qqa K) n) n s0 out3;rw [← ih];kernel_rfl
theorem qKj (n:Nat) (s0:List UInt8) (o0:Lab):evFnP E_z19 n C_z19 R_z19 [db s0 o0]=qDV n s0:=by
 unfold qDV;rw [show qlc qqB n=(fun s0 out3=>evLP E_z19 n (sub C_z19 [1,1,0,0]) (qo 0 (E_z19.cutb 0) (kFnP E_z19 R_z19)) (qvy s0 out3)) from by
  funext s0 out3;refine Eq.trans ?_ (qzF (qo 0 (E_z19.cutb 0) (kFnP E_z19 R_z19)) n s0 out3).symm;all_goals kernel_rfl]
 kernel_rfl
theorem qkM:qg G Tryz.prog 19 s_z19:=by
 refine sQ (E:=E_z19) (c:=C_z19) rfl (fun w S hg=>(qb (qzE w S hg) (qb (qjT w S hg) qc))) Tryz.func19 ?_;intro avs r h;unfold s_z19 at h;split at h
 ·obtain ⟨hp,rfl⟩:=yj h;obtain ⟨n,hn⟩:=qEV _ hp;exact ⟨n,_,(qKj n _ _).trans hn,.inl rfl⟩
 ·cases h
def E_z9:EnvP:=eQ [(11,s_z11),(19,s_z19)] 6 (some [2]) nC nC nP
def C_z9:Code:=cO Tryz.f9
def R_z9:Array ResultVar:=Tryz.f9.results
theorem z9_ev (n:Nat) (s0:List UInt8) (o0:Lab):evFnP E_z9 n C_z9 R_z9 [db s0 o0]=z9_sh n s0:=by
 kernel_rfl
theorem qvz:qg G Tryz.prog 9 s_z9:=by
 refine sQ (E:=E_z9) (c:=C_z9) rfl (fun w S hg=>(qb (qzD w S hg) (qb (qkM w S hg) qc))) Tryz.func9 ?_;intro avs r h;unfold s_z9 at h;split at h
 ·obtain ⟨hp,rfl⟩:=yj h;obtain ⟨n,hn⟩:=qIm _ hp;exact ⟨n,_,(z9_ev n _ _).trans hn,.inl rfl⟩
 ·cases h
def E_z15:EnvP:=⟨⟨tiOf tis,fnsOf [(19,s_z19)],cnsOf [],[],9,(fun _=>none),(fun _=>none),some [2]⟩,(fun x=>if x=3 then some (.osl 25 (.sl (.int .i32))) else none),fun _=>none,fun _=>[],(fun x=>if x=20 then some s_z20 else none),fun _=>none,fun _=>none,fun _=>none⟩
def C_z15:Code:=cO Tryz.f15
def R_z15:Array ResultVar:=Tryz.f15.results
theorem qKk (n:Nat) (s0:List UInt8) (o0:Lab):evFnP E_z15 n C_z15 R_z15 [db s0 o0]=qDW n s0:=by
 kernel_rfl
theorem qqb:qg G Tryz.prog 15 s_z15:=by
 refine qB G_stays (E:=E_z15) (fn:=Tryz.f15) (c:=C_z15) (qf rfl qaS) (fun w S hg=>⟨⟨(qb (qkM w S hg) qc),fun f sp h=>qZ f sp h w S⟩,qae w S hg,(fun f sp h=>(qaQ (qkL w S hg) qeb) f sp h),(fun f sp h=>qat f sp h),(fun f it h=>qau f it h),(fun t kt vt h=>qaa t kt vt h)⟩) follows Tryz.func15 (by kernel_rfl) (by kernel_rfl) (by kernel_rfl) ?_;intro avs r h;unfold s_z15 at h;split at h
 ·obtain ⟨hp,rfl⟩:=yj h;obtain ⟨n,hn⟩:=qDn _ hp;exact ⟨n,_,(qKk n _ _).trans hn,.inl rfl⟩
 ·cases h
def E_z29:EnvP:=⟨⟨tiOf tis,fnsOf [(19,s_z19)],cnsOf [],[],8,(fun _=>none),(fun _=>none),some [9]⟩,fun _=>none,fun _=>none,fun _=>[],(fun x=>if x=20 then some s_z20 else none),fun _=>none,fun _=>none,fun _=>none⟩
def C_z29:Code:=cO Tryz.f29
def R_z29:Array ResultVar:=Tryz.f29.results
theorem qzG (n:Nat) (s0:List UInt8) (o0:Lab) (f1:Int):evFnM E_z29 n C_z29 R_z29 [db s0 o0,.fn 32 [.pbox (.leaf (.int .i64)) f1 none]]=qld n s0 f1:=by
 kernel_rfl
theorem qzH (n:Nat) (s0:List UInt8) (o0:Lab) (f1:List Int):evFnM E_z29 n C_z29 R_z29 [db s0 o0,.fn 30 [.pbox (.osl 3 (.int .i64)) f1 none]]=qle n s0 f1:=by
 kernel_rfl
theorem qqc:qfO G Tryz.prog 29 s_z29:=by
 refine qP G_stays (E:=E_z29) (fn:=Tryz.f29) (c:=C_z29) (qf rfl qaS) (fun w S hg=>⟨⟨(qb (qkM w S hg) qc),fun f sp h=>qZ f sp h w S⟩,qae w S hg,(fun f sp h=>(qaQ (qkL w S hg) qeb) f sp h),(fun _ _ h=>by cases h),(fun _ _ h=>by cases h),(fun t kt vt h=>qaa t kt vt h)⟩) follows Tryz.func29 (by kernel_rfl) (by kernel_rfl) (by kernel_rfl) ?_;intro avs r h;unfold s_z29 at h;split at h
 ·obtain ⟨hp,rfl⟩:=yj h;obtain ⟨n,hn⟩:=qso _ _ hp;exact ⟨n,(qzG n _ _ _).trans hn⟩
 ·simp only [yb] at h;obtain ⟨hp,rfl⟩:=h;obtain ⟨n,hn⟩:=qsp _ _ hp;exact ⟨n,(qzH n _ _ _).trans hn⟩
 ·cases h
def E_z16:EnvP:=⟨⟨tiOf tis,fnsOf [],cnsOf [],[],8,(fun _=>none),(fun _=>none),some [2]⟩,(fun x=>if x=3 then some (.osl 3 (.int .i64)) else none),fun _=>none,fun _=>[],(fun x=>if x=29 then some s_z29 else none),fun _=>none,fun _=>none,fun _=>none⟩
def C_z16:Code:=cO Tryz.f16
def R_z16:Array ResultVar:=Tryz.f16.results
theorem qKl (n:Nat) (s0:List UInt8) (o0:Lab):evFnP E_z16 n C_z16 R_z16 [db s0 o0]=qDX n s0:=by
 kernel_rfl
theorem qqd:qg G Tryz.prog 16 s_z16:=by
 refine qB G_stays (E:=E_z16) (fn:=Tryz.f16) (c:=C_z16) (qf rfl qaS) (fun w S hg=>⟨⟨qc,fun f sp h=>qZ f sp h w S⟩,qae w S hg,(fun f sp h=>(qaQ (qqc w S hg) qeb) f sp h),(fun f sp h=>qat f sp h),(fun f it h=>qau f it h),(fun t kt vt h=>qaa t kt vt h)⟩) follows Tryz.func16 (by kernel_rfl) (by kernel_rfl) (by kernel_rfl) ?_;intro avs r h;unfold s_z16 at h;split at h
 ·obtain ⟨hp,rfl⟩:=yj h;obtain ⟨n,hn⟩:=qDp _ hp;exact ⟨n,_,(qKl n _ _).trans hn,.inl rfl⟩
 ·cases h
def E_z17:EnvP:=⟨⟨tiOf tis,fnsOf [],cnsOf [],[],8,(fun _=>none),(fun _=>none),some [2]⟩,(fun x=>if x=3 then some (.leaf (.int .i64)) else none),fun _=>none,fun _=>[],(fun x=>if x=29 then some s_z29 else none),fun _=>none,fun _=>none,fun _=>none⟩
def C_z17:Code:=cO Tryz.f17
def R_z17:Array ResultVar:=Tryz.f17.results
theorem qKm (n:Nat) (s0:List UInt8) (o0:Lab):evFnP E_z17 n C_z17 R_z17 [db s0 o0]=qDY n s0:=by
 kernel_rfl
theorem qqe:qg G Tryz.prog 17 s_z17:=by
 refine qB G_stays (E:=E_z17) (fn:=Tryz.f17) (c:=C_z17) (qf rfl qaS) (fun w S hg=>⟨⟨qc,fun f sp h=>qZ f sp h w S⟩,qae w S hg,(fun f sp h=>(qaQ (qqc w S hg) qeb) f sp h),(fun f sp h=>qat f sp h),(fun f it h=>qau f it h),(fun t kt vt h=>qaa t kt vt h)⟩) follows Tryz.func17 (by kernel_rfl) (by kernel_rfl) (by kernel_rfl) ?_;intro avs r h;unfold s_z17 at h;split at h
 ·obtain ⟨hp,rfl⟩:=yj h;obtain ⟨n,hn⟩:=qDo _ hp;exact ⟨n,_,(qKm n _ _).trans hn,.inl rfl⟩
 ·cases h
def E_z7:EnvP:=eQ [(8,s_z8),(9,s_z9),(15,s_z15),(16,s_z16),(17,s_z17)] 25 (some [0]) nC nC nP
def C_z7:Code:=cO Tryz.f7
def R_z7:Array ResultVar:=Tryz.f7.results
theorem z7_ev (n:Nat)  : evFnP E_z7 n C_z7 R_z7 []=z7_sh n  := by
 kernel_rfl
theorem qDa:qg G Tryz.prog 7 s_z7:=by
 refine sQ (E:=E_z7) (c:=C_z7) rfl (fun w S hg=>(qb (quj w S hg) (qb (qvz w S hg) (qb (qqb w S hg) (qb (qqd w S hg) (qb (qqe w S hg) qc)))))) Tryz.func7 ?_;intro avs r h;unfold s_z7 at h;split at h <;> cases h
 obtain ⟨n,hn⟩:=qIn;exact ⟨n,_,(z7_ev n ).trans hn,.inl rfl⟩
end
end Go.Av
