import Derived.Test.YtnfehbljinflbaaGreatDoorRRRRErEvI
import Derived.Test.YtnfehbljinflbaaGreatDoorRRRREtN
import Derived.Test.YtnfehbljinflbaaGreatDoorRRRRProg
import Derived.KernelRfl
namespace Go.Av
set_option linter.unusedSimpArgs false
noncomputable section
open Go.Proofs
set_option maxRecDepth 100000
set_option linter.unusedVariables false
theorem qyx (n:Nat) (s0:List UInt8) (o0:Lab) (f1:List Int):evFnM E_z29 n C_z29 R_z29 [db s0 o0,.fn 30 [.pbox (.osl 3 (.int .i64)) f1 none]]=qlf n s0 f1:=by
 kernel_rfl
theorem qpH:qfR G Tryz.prog 29 s_z29:=by
 refine qP G_stays (E:=E_z29) (fn:=Tryz.f29) (c:=C_z29) (qe rfl qaU) (fun w S hg=>⟨⟨(qb (qkO w S hg) qc),fun f sp h=>qZ f sp h w S⟩,qae w S hg,(fun f sp h=>(qaS (qkN w S hg) qec) f sp h),(fun _ _ h=>by cases h),(fun _ _ h=>by cases h),(fun t kt vt h=>qaa t kt vt h)⟩) follows Tryz.func29 (by kernel_rfl) (by kernel_rfl) (by kernel_rfl) ?_;intro avs r h;unfold s_z29 at h;split at h
 ·obtain ⟨hp,rfl⟩:=yj h;obtain ⟨n,hn⟩:=qsl _ _ hp;exact ⟨n,(qzB n _ _ _).trans hn⟩
 ·simp only [yb] at h;obtain ⟨hp,rfl⟩:=h;obtain ⟨n,hn⟩:=qsm _ _ hp;exact ⟨n,(qyx n _ _ _).trans hn⟩
 ·cases h
def E_z16:EnvP:=⟨⟨tiOf tis,fnsOf [],cnsOf [],[],8,(fun _=>none),(fun _=>none),some [2]⟩,(fun x=>if x=3 then some (.osl 3 (.int .i64)) else none),fun _=>none,fun _=>[],(fun x=>if x=29 then some s_z29 else none),fun _=>none,fun _=>none,fun _=>none⟩
def C_z16:Code:=cO Tryz.f16
def R_z16:Array ResultVar:=Tryz.f16.results
theorem qIx (n:Nat) (s0:List UInt8) (o0:Lab):evFnP E_z16 n C_z16 R_z16 [db s0 o0]=qDI n s0:=by
 kernel_rfl
theorem qpI:qf G Tryz.prog 16 s_z16:=by
 refine qB G_stays (E:=E_z16) (fn:=Tryz.f16) (c:=C_z16) (qe rfl qaU) (fun w S hg=>⟨⟨qc,fun f sp h=>qZ f sp h w S⟩,qae w S hg,(fun f sp h=>(qaS (qpH w S hg) qec) f sp h),(fun f sp h=>qat f sp h),(fun f it h=>qau f it h),(fun t kt vt h=>qaa t kt vt h)⟩) follows Tryz.func16 (by kernel_rfl) (by kernel_rfl) (by kernel_rfl) ?_;intro avs r h;unfold s_z16 at h;split at h
 ·obtain ⟨hp,rfl⟩:=yj h;obtain ⟨n,hn⟩:=qDd _ hp;exact ⟨n,_,(qIx n _ _).trans hn,.inl rfl⟩
 ·cases h
def E_z17:EnvP:=⟨⟨tiOf tis,fnsOf [],cnsOf [],[],8,(fun _=>none),(fun _=>none),some [2]⟩,(fun x=>if x=3 then some (.leaf (.int .i64)) else none),fun _=>none,fun _=>[],(fun x=>if x=29 then some s_z29 else none),fun _=>none,fun _=>none,fun _=>none⟩
def C_z17:Code:=cO Tryz.f17
def R_z17:Array ResultVar:=Tryz.f17.results
theorem qIy (n:Nat) (s0:List UInt8) (o0:Lab):evFnP E_z17 n C_z17 R_z17 [db s0 o0]=qDJ n s0:=by
 kernel_rfl
theorem qyy:qf G Tryz.prog 17 s_z17:=by
 refine qB G_stays (E:=E_z17) (fn:=Tryz.f17) (c:=C_z17) (qe rfl qaU) (fun w S hg=>⟨⟨qc,fun f sp h=>qZ f sp h w S⟩,qae w S hg,(fun f sp h=>(qaS (qpH w S hg) qec) f sp h),(fun f sp h=>qat f sp h),(fun f it h=>qau f it h),(fun t kt vt h=>qaa t kt vt h)⟩) follows Tryz.func17 (by kernel_rfl) (by kernel_rfl) (by kernel_rfl) ?_;intro avs r h;unfold s_z17 at h;split at h
 ·obtain ⟨hp,rfl⟩:=yj h;obtain ⟨n,hn⟩:=qDc _ hp;exact ⟨n,_,(qIy n _ _).trans hn,.inl rfl⟩
 ·cases h
def E_z7:EnvP:=eQ [(8,s_z8),(9,s_z9),(15,s_z15),(16,s_z16),(17,s_z17)] 25 (some [0]) nC nC nP
def C_z7:Code:=cO Tryz.f7
def R_z7:Array ResultVar:=Tryz.f7.results
theorem z7_ev (n:Nat)  : evFnP E_z7 n C_z7 R_z7 []=z7_sh n  := by
 kernel_rfl
theorem qCJ:qf G Tryz.prog 7 s_z7:=by
 refine sQ (E:=E_z7) (c:=C_z7) rfl (fun w S hg=>(qb (qCQ w S hg) (qb (qvw w S hg) (qb (qzA w S hg) (qb (qpI w S hg) (qb (qyy w S hg) qc)))))) Tryz.func7 ?_;intro avs r h;unfold s_z7 at h;split at h <;> cases h
 obtain ⟨n,hn⟩:=qHS;exact ⟨n,_,(z7_ev n ).trans hn,.inl rfl⟩
def E_z6:EnvP:=eQ [(7,s_z7),(9,s_z9),(16,s_z16)] 77 (some [2]) (fun x=>if x=5 then some [3,13,14,15] else if x=14 then some [3,6,55,56,57] else none) (fun x=>if x=0 then some [3] else if x=1 then some [3,13,14,15] else if x=2 then some [3] else if x=3 then some [3,6,55,56,57] else none) nP
def C_z6:Code:=cO Tryz.f6
def R_z6:Array ResultVar:=Tryz.f6.results
noncomputable def qtV (K:Ex→Fr→Option AV):=fun plain3=>K (.exit 0) (frOf [(3,(db plain3 (some (3,5))))])
noncomputable def qtW (K:Ex→Fr→Option AV):=fun plain3=>K (.exit 2) (frOf [(3,(db plain3 (some (3,5))))])
noncomputable def qyz (K:Ex→Fr→Option AV):=fun s2=>K .ret (frOf [(2,dg s2)])
def qyA (n:Nat):Ex→Fr→Option AV:=qm 2 (E_z6.cutb 2) (kSeq (evCP E_z6 (evLP E_z6 n) (sub C_z6 [1,1,1,1,1,1,1])) (kFnP E_z6 R_z6))
def qyB (n:Nat):Ex→Fr→Option AV:=qm 0 (E_z6.cutb 0) (kSeq (evCP E_z6 (evLP E_z6 n) (sub C_z6 [1,1,1,1])) (kFnP E_z6 R_z6))
def qCK (plain3:List UInt8) (t6:List Int) (s55:List UInt8) (s56:Int) (s57:Int):Fr:=frOf [(3,(db plain3 (some (3,5)))),(6,(.dat (.sl (.int .i32)) t6 none)),(55,(db s55 (some (3,5)))),(56,dc s56),(57,dc s57)]
def qCL (plain3:List UInt8) (s13:List UInt8) (s14:Int) (s15:Int):Fr:=frOf [(3,(db plain3 (some (3,5)))),(13,da s13),(14,dc s14),(15,dc s15)]
theorem qCM (K:Ex→Fr→Option AV):∀ (n:Nat) (plain3:List UInt8) (s13:List UInt8) (s14:Int) (s15:Int),evLP E_z6 n (sub C_z6 [1,1,1,0,1,0,0]) K (qCL plain3 s13 s14 s15)=z6_l5 (qtV K) n plain3 s13 s14 s15:=by
 intro n;induction n with
 | zero=>intros; rfl
 | succ n IH =>
 intro plain3 s13 s14 s15;have ih:(fun plain3 s13 s14 s15=>evLP E_z6 n (sub C_z6 [1,1,1,0,1,0,0]) K (qCL plain3 s13 s14 s15))=z6_l5 (qtV K) n:=by
  funext plain3 s13 s14 s15;exact IH plain3 s13 s14 s15
 show _=qiU (qtV K) (z6_l5 (qtV K) n) n plain3 s13 s14 s15;rw [← ih];kernel_rfl
theorem qyC (K:Ex→Fr→Option AV):∀ (n:Nat) (plain3:List UInt8) (t6:List Int) (s55:List UInt8) (s56:Int) (s57:Int),evLP E_z6 n (sub C_z6 [1,1,1,1,1,1,0,1,0,0]) K (qCK plain3 t6 s55 s56 s57)=qoB (qyz K) (qtW K) n plain3 t6 s55 s56 s57:=by
 intro n;induction n with
 | zero=>intros; rfl
 | succ n IH =>
 intro plain3 t6 s55 s56 s57;have ih:(fun plain3 t6 s55 s56 s57=>evLP E_z6 n (sub C_z6 [1,1,1,1,1,1,0,1,0,0]) K (qCK plain3 t6 s55 s56 s57))=qoB (qyz K) (qtW K) n:=by
  funext plain3 t6 s55 s56 s57;exact IH plain3 t6 s55 s56 s57
 show _=qfu (qyz K) (qtW K) (qoB (qyz K) (qtW K) n) n plain3 t6 s55 s56 s57;rw [← ih];kernel_rfl
theorem qrv (n:Nat) (plain3:List UInt8):(qyA n) (.exit 2) (frOf [(3,(db plain3 (some (3,5))))])=qid n plain3:=by
 kernel_rfl
theorem qtX (n:Nat) (plain3:List UInt8):(qyB n) (.exit 0) (frOf [(3,(db plain3 (some (3,5))))])=qiV n plain3:=by
 unfold qiV;rw [show qoB qoA (qid n) n=(fun plain3 t6 s55 s56 s57=>evLP E_z6 n (sub C_z6 [1,1,1,1,1,1,0,1,0,0]) (qyA n) (qCK plain3 t6 s55 s56 s57)) from by
  funext plain3 t6 s55 s56 s57;refine Eq.trans ?_ (qyC (qyA n) n plain3 t6 s55 s56 s57).symm;rw [show (qtW (qyA n))=(qid n) from by
   funext plain3;exact qrv n plain3]
  all_goals kernel_rfl]
 kernel_rfl
theorem z6_ev (n:Nat) (s0:List UInt8) (o0:Lab):evFnP E_z6 n C_z6 R_z6 [db s0 o0]=z6_sh n s0:=by
 unfold z6_sh;rw [show z6_l5 (qiV n) n=(fun plain3 s13 s14 s15=>evLP E_z6 n (sub C_z6 [1,1,1,0,1,0,0]) (qyB n) (qCL plain3 s13 s14 s15)) from by
  funext plain3 s13 s14 s15;refine Eq.trans ?_ (qCM (qyB n) n plain3 s13 s14 s15).symm;rw [show (qtV (qyB n))=(qiV n) from by
   funext plain3;exact qtX n plain3]
  all_goals kernel_rfl]
 kernel_rfl
theorem qCN:qf G Tryz.prog 6 s_z6:=by
 refine sQ (E:=E_z6) (c:=C_z6) rfl (fun w S hg=>(qb (qCJ w S hg) (qb (qvw w S hg) (qb (qpI w S hg) qc)))) Tryz.func6 ?_;intro avs r h;unfold s_z6 at h;split at h <;> cases h
 obtain ⟨n,hn⟩:=qHT _;exact ⟨n,_,(z6_ev n _ _).trans hn,.inl rfl⟩
end
end Go.Av
