import Derived.Test.YtopepdfipgfakaaGreatDoorEfEvC
import Derived.Test.YtopepdfipgfakaaGreatDoorEfLayX
import Derived.Test.YtopepdfipgfakaaGreatDoorProg
import Derived.KernelRfl
namespace Go.Av
set_option linter.unusedSimpArgs false
open Go.Proofs
set_option maxRecDepth 100000
set_option linter.unusedVariables false
noncomputable def qBf:EnvP:=eQ [] 6 (some [2]) nC nC nP
noncomputable def qBg:Code:=cO Tryz.f138
noncomputable def qEf:Array ResultVar:=Tryz.f138.results
theorem qBh (n:Nat) (c0:Int) (o0:Lab):evFnP qBf n qBg qEf [.dat (.int .i32) c0 o0]=qrw n c0:=by
 kernel_rfl
theorem qps:qg G Tryz.prog 138 s_z138:=by
 refine sQ (E:=qBf) (c:=qBg) rfl (fun w S hg=>qd) Tryz.func138 (by kernel_rfl) (by kernel_rfl) (by kernel_rfl) ?_
 intro avs r h
 unfold s_z138 at h
 split at h
 ·simp only [Prod.mk.injEq,true_and] at h
  subst h
  obtain ⟨n,hn⟩:=quE _
  exact ⟨n,_,(qBh n _ _).trans hn,.inl rfl⟩
 ·cases h
noncomputable def E_z93:EnvP:=eQ [(97,s_z97),(138,s_z138)] 24 (some [2]) (fun x=>if x=4 then some [3,4,9,10,11] else none) (fun x=>if x=0 then some [3] else if x=1 then some [3,4,9,10,11] else none) (fun x=>if x=8 then some (.psl 21 (.leaf (.int .i32))) else none)
noncomputable def C_z93:Code:=cO Tryz.f93
noncomputable def R_z93:Array ResultVar:=Tryz.f93.results
theorem qtR (K:Ex→Fr→Option AV):∀ (n:Nat) (t3:List Int) (s10:Int) (s11:Int),evLP E_z93 n (sub C_z93 [1,1,1,0,1,0,0]) K (frOf [(3,(.pv (.psl 21 (.leaf (.int .i32))) t3 none)),(4,(.fn 138 [])),(9,(.pval 3 [])),(10,(.dat (.int .i64) s10 none)),(11,(.dat (.int .i64) s11 none))])=qks (fun t3=>K (.exit 0) (frOf [(3,(.pv (.psl 21 (.leaf (.int .i32))) t3 none))])) n t3 s10 s11:=by
 intro n
 induction n with
 | zero=>intros; rfl
 | succ n IH =>
 intro t3 s10 s11
 have ih:(fun t3 s10 s11=>evLP E_z93 n (sub C_z93 [1,1,1,0,1,0,0]) K (frOf [(3,(.pv (.psl 21 (.leaf (.int .i32))) t3 none)),(4,(.fn 138 [])),(9,(.pval 3 [])),(10,(.dat (.int .i64) s10 none)),(11,(.dat (.int .i64) s11 none))]))=qks (fun t3=>K (.exit 0) (frOf [(3,(.pv (.psl 21 (.leaf (.int .i32))) t3 none))])) n:=by
  funext t3 s10 s11
  exact IH t3 s10 s11
 show _=qej (fun t3=>K (.exit 0) (frOf [(3,(.pv (.psl 21 (.leaf (.int .i32))) t3 none))])) (qks (fun t3=>K (.exit 0) (frOf [(3,(.pv (.psl 21 (.leaf (.int .i32))) t3 none))])) n) n t3 s10 s11
 rw [← ih]
 kernel_rfl
theorem qna (n:Nat) (t3:List Int):(qc 0 (E_z93.cutb 0) (kSeq (evCP E_z93 (evLP E_z93 n) (sub C_z93 [1,1,1,1])) (kFnP E_z93 R_z93))) (.exit 0) (frOf [(3,(.pv (.psl 21 (.leaf (.int .i32))) t3 none))])=qfW n t3:=by
 kernel_rfl
theorem qEg (n:Nat) (s0:List UInt8) (o0:Lab):evFnP E_z93 n C_z93 R_z93 [.dat (.sl .byte) s0 o0]=qvf n s0:=by
 unfold qvf
 rw [show qks (qfW n) n=(fun t3 s10 s11=>evLP E_z93 n (sub C_z93 [1,1,1,0,1,0,0]) (qc 0 (E_z93.cutb 0) (kSeq (evCP E_z93 (evLP E_z93 n) (sub C_z93 [1,1,1,1])) (kFnP E_z93 R_z93))) (frOf [(3,(.pv (.psl 21 (.leaf (.int .i32))) t3 none)),(4,(.fn 138 [])),(9,(.pval 3 [])),(10,(.dat (.int .i64) s10 none)),(11,(.dat (.int .i64) s11 none))])) from by
  funext t3 s10 s11
  refine Eq.trans ?_ (qtR (qc 0 (E_z93.cutb 0) (kSeq (evCP E_z93 (evLP E_z93 n) (sub C_z93 [1,1,1,1])) (kFnP E_z93 R_z93))) n t3 s10 s11).symm
  rw [show (fun t3=>(qc 0 (E_z93.cutb 0) (kSeq (evCP E_z93 (evLP E_z93 n) (sub C_z93 [1,1,1,1])) (kFnP E_z93 R_z93))) (.exit 0) (frOf [(3,(.pv (.psl 21 (.leaf (.int .i32))) t3 none))]))=(qfW n) from by
   funext t3
   exact qna n t3]
  all_goals kernel_rfl]
 kernel_rfl
theorem qtS:qg G Tryz.prog 93 s_z93:=by
 refine sQ (E:=E_z93) (c:=C_z93) rfl (fun w S hg=>(qb (qlE w S hg) (qb (qps w S hg) qd))) Tryz.func93 (by kernel_rfl) (by kernel_rfl) (by kernel_rfl) ?_
 intro avs r h
 unfold s_z93 at h
 split at h
 ·simp only [Prod.mk.injEq] at h
  obtain ⟨hp,rfl⟩:=h
  obtain ⟨n,hn⟩:=qxW _ hp
  exact ⟨n,_,(qEg n _ _).trans hn,.inl rfl⟩
 ·cases h
noncomputable def qBi:EnvP:=eQ [] 10 (some [0]) nC nC nP
noncomputable def qBj:Code:=cO Tryz.f185
noncomputable def qEh:Array ResultVar:=Tryz.f185.results
theorem qBk (n:Nat)  : evFnP qBi n qBj qEh []=qwz n  := by
 kernel_rfl
theorem qpt:qg G Tryz.prog 185 s_z185:=by
 refine sQ (E:=qBi) (c:=qBj) rfl (fun w S hg=>qd) Tryz.func185 (by kernel_rfl) (by kernel_rfl) (by kernel_rfl) ?_
 intro avs r h
 unfold s_z185 at h
 split at h
 ·simp only [Prod.mk.injEq,true_and] at h
  subst h
  obtain ⟨n,hn⟩:=qvQ
  exact ⟨n,_,(qBk n ).trans hn,.inl rfl⟩
 ·cases h
noncomputable def qaV:EnvP:=eQ [(185,s_z185)] 18 (some [2]) (fun x=>if x=2 then some [0,5,6] else none) (fun x=>if x=0 then some [0] else if x=1 then some [0,5,6] else none) nP
noncomputable def qhB:Code:=cO Tryz.f139
noncomputable def qpu:Array ResultVar:=Tryz.f139.results
theorem qpv (K:Ex→Fr→Option AV):∀ (n:Nat) (x0:UInt8) (s5:List (UInt8×(Int×Unit))) (s6:Int),evLP qaV n (sub qhB [1,0,1,0,0]) K (frOf [(0,(.dat .byte x0 none)),(5,(.dat (.arr 8 (.pair .byte (.pair (.int .i32) .unit))) s5 none)),(6,(.dat (.int .i64) s6 none))])=qgF (fun s2=>K .ret (frOf [(2,(.dat (.int .i32) s2 none))])) (fun x0=>K (.exit 0) (frOf [(0,(.dat .byte x0 none))])) n x0 s5 s6:=by
 intro n
 induction n with
 | zero=>intros; rfl
 | succ n IH =>
 intro x0 s5 s6
 have ih:(fun x0 s5 s6=>evLP qaV n (sub qhB [1,0,1,0,0]) K (frOf [(0,(.dat .byte x0 none)),(5,(.dat (.arr 8 (.pair .byte (.pair (.int .i32) .unit))) s5 none)),(6,(.dat (.int .i64) s6 none))]))=qgF (fun s2=>K .ret (frOf [(2,(.dat (.int .i32) s2 none))])) (fun x0=>K (.exit 0) (frOf [(0,(.dat .byte x0 none))])) n:=by
  funext x0 s5 s6
  exact IH x0 s5 s6
 show _=qlV (fun s2=>K .ret (frOf [(2,(.dat (.int .i32) s2 none))])) (fun x0=>K (.exit 0) (frOf [(0,(.dat .byte x0 none))])) (qgF (fun s2=>K .ret (frOf [(2,(.dat (.int .i32) s2 none))])) (fun x0=>K (.exit 0) (frOf [(0,(.dat .byte x0 none))])) n) n x0 s5 s6
 rw [← ih]
 kernel_rfl
theorem qjS (n:Nat) (x0:UInt8):(qc 0 (qaV.cutb 0) (kSeq (evCP qaV (evLP qaV n) (sub qhB [1,1])) (kFnP qaV qpu))) (.exit 0) (frOf [(0,(.dat .byte x0 none))])=qfa n x0:=by
 kernel_rfl
theorem qBl (n:Nat) (x0:UInt8) (o0:Lab):evFnP qaV n qhB qpu [.dat .byte x0 o0]=qlW n x0:=by
 unfold qlW
 rw [show qgF qal (qfa n) n=(fun x0 s5 s6=>evLP qaV n (sub qhB [1,0,1,0,0]) (qc 0 (qaV.cutb 0) (kSeq (evCP qaV (evLP qaV n) (sub qhB [1,1])) (kFnP qaV qpu))) (frOf [(0,(.dat .byte x0 none)),(5,(.dat (.arr 8 (.pair .byte (.pair (.int .i32) .unit))) s5 none)),(6,(.dat (.int .i64) s6 none))])) from by
  funext x0 s5 s6
  refine Eq.trans ?_ (qpv (qc 0 (qaV.cutb 0) (kSeq (evCP qaV (evLP qaV n) (sub qhB [1,1])) (kFnP qaV qpu))) n x0 s5 s6).symm
  rw [show (fun x0=>(qc 0 (qaV.cutb 0) (kSeq (evCP qaV (evLP qaV n) (sub qhB [1,1])) (kFnP qaV qpu))) (.exit 0) (frOf [(0,(.dat .byte x0 none))]))=(qfa n) from by
   funext x0
   exact qjS n x0]
  all_goals kernel_rfl]
 kernel_rfl
theorem qpw:qg G Tryz.prog 139 s_z139:=by
 refine sQ (E:=qaV) (c:=qhB) rfl (fun w S hg=>(qb (qpt w S hg) qd)) Tryz.func139 (by kernel_rfl) (by kernel_rfl) (by kernel_rfl) ?_
 intro avs r h
 unfold s_z139 at h
 split at h
 ·simp only [Prod.mk.injEq,true_and] at h
  subst h
  obtain ⟨n,hn⟩:=quF _
  exact ⟨n,_,(qBl n _ _).trans hn,.inl rfl⟩
 ·cases h
noncomputable def E_z94:EnvP:=eQ [(139,s_z139)] 19 (some [2]) (fun x=>if x=3 then some [3,6,7,8] else none) (fun x=>if x=0 then some [3] else if x=1 then some [3,6,7,8] else none) nP
noncomputable def C_z94:Code:=cO Tryz.f94
noncomputable def R_z94:Array ResultVar:=Tryz.f94.results
theorem qtT (K:Ex→Fr→Option AV):∀ (n:Nat) (t3:List Int) (s6:List UInt8) (s7:Int) (s8:Int),evLP E_z94 n (sub C_z94 [1,1,0,1,0,0]) K (frOf [(3,(.dat (.sl (.int .i32)) t3 (some (3,21)))),(6,(.dat (.sl .byte) s6 none)),(7,(.dat (.int .i64) s7 none)),(8,(.dat (.int .i64) s8 none))])=qkt (fun t3=>K (.exit 0) (frOf [(3,(.dat (.sl (.int .i32)) t3 (some (3,21))))])) n t3 s6 s7 s8:=by
 intro n
 induction n with
 | zero=>intros; rfl
 | succ n IH =>
 intro t3 s6 s7 s8
 have ih:(fun t3 s6 s7 s8=>evLP E_z94 n (sub C_z94 [1,1,0,1,0,0]) K (frOf [(3,(.dat (.sl (.int .i32)) t3 (some (3,21)))),(6,(.dat (.sl .byte) s6 none)),(7,(.dat (.int .i64) s7 none)),(8,(.dat (.int .i64) s8 none))]))=qkt (fun t3=>K (.exit 0) (frOf [(3,(.dat (.sl (.int .i32)) t3 (some (3,21))))])) n:=by
  funext t3 s6 s7 s8
  exact IH t3 s6 s7 s8
 show _=qek (fun t3=>K (.exit 0) (frOf [(3,(.dat (.sl (.int .i32)) t3 (some (3,21))))])) (qkt (fun t3=>K (.exit 0) (frOf [(3,(.dat (.sl (.int .i32)) t3 (some (3,21))))])) n) n t3 s6 s7 s8
 rw [← ih]
 kernel_rfl
theorem qnb (n:Nat) (t3:List Int):(qc 0 (E_z94.cutb 0) (kSeq (evCP E_z94 (evLP E_z94 n) (sub C_z94 [1,1,1])) (kFnP E_z94 R_z94))) (.exit 0) (frOf [(3,(.dat (.sl (.int .i32)) t3 (some (3,21))))])=qel n t3:=by
 kernel_rfl
theorem qEi (n:Nat) (s0:List UInt8) (o0:Lab):evFnP E_z94 n C_z94 R_z94 [.dat (.sl .byte) s0 o0]=qvg n s0:=by
 unfold qvg
 rw [show qkt (qel n) n=(fun t3 s6 s7 s8=>evLP E_z94 n (sub C_z94 [1,1,0,1,0,0]) (qc 0 (E_z94.cutb 0) (kSeq (evCP E_z94 (evLP E_z94 n) (sub C_z94 [1,1,1])) (kFnP E_z94 R_z94))) (frOf [(3,(.dat (.sl (.int .i32)) t3 (some (3,21)))),(6,(.dat (.sl .byte) s6 none)),(7,(.dat (.int .i64) s7 none)),(8,(.dat (.int .i64) s8 none))])) from by
  funext t3 s6 s7 s8
  refine Eq.trans ?_ (qtT (qc 0 (E_z94.cutb 0) (kSeq (evCP E_z94 (evLP E_z94 n) (sub C_z94 [1,1,1])) (kFnP E_z94 R_z94))) n t3 s6 s7 s8).symm
  rw [show (fun t3=>(qc 0 (E_z94.cutb 0) (kSeq (evCP E_z94 (evLP E_z94 n) (sub C_z94 [1,1,1])) (kFnP E_z94 R_z94))) (.exit 0) (frOf [(3,(.dat (.sl (.int .i32)) t3 (some (3,21))))]))=(qel n) from by
   funext t3
   exact qnb n t3]
  all_goals kernel_rfl]
 kernel_rfl
theorem qtU:qg G Tryz.prog 94 s_z94:=by
 refine sQ (E:=E_z94) (c:=C_z94) rfl (fun w S hg=>(qb (qpw w S hg) qd)) Tryz.func94 (by kernel_rfl) (by kernel_rfl) (by kernel_rfl) ?_
 intro avs r h
 unfold s_z94 at h
 split at h
 ·simp only [Prod.mk.injEq] at h
  obtain ⟨hp,rfl⟩:=h
  obtain ⟨n,hn⟩:=qxX _ hp
  exact ⟨n,_,(qEi n _ _).trans hn,.inl rfl⟩
 ·cases h
noncomputable def qBm:EnvP:=⟨⟨tiOf tis,fnsOf [],cnsOf [],[],4,(fun _=>none),(fun _=>none),some [0]⟩,fun _=>none,fun _=>none,(fun x=>if x=500002 then [1] else []),fun _=>none,fun _=>none,fun _=>none,fun _=>none⟩
noncomputable def qBn:Code:=cO Tryz.f186
noncomputable def qEj:Array ResultVar:=Tryz.f186.results
theorem qBo (n:Nat)  : evFnP qBm n qBn qEj []=qwB n  := by
 kernel_rfl
theorem qpx:qg G Tryz.prog 186 s_z186:=by
 refine qO G_stays (E:=qBm) (fn:=Tryz.f186) (c:=qBn) (qp rfl qea) (fun w S hg=>⟨⟨qd,fun f sp h=>qbB f sp h w S⟩,qbH w S hg,(fun _ _ h=>by cases h),(fun f sp h=>qcs f sp h),(fun f it h=>qct f it h),(fun t kt vt h=>qbL t kt vt h)⟩) follows Tryz.func186 (by kernel_rfl) (by kernel_rfl) (by kernel_rfl) ?_
 intro avs r h
 unfold s_z186 at h
 split at h
 ·simp only [Prod.mk.injEq,true_and] at h
  subst h
  obtain ⟨n,hn⟩:=qvR
  exact ⟨n,_,(qBo n ).trans hn,.inl rfl⟩
 ·cases h
noncomputable def qBp:EnvP:=eQ [(186,s_z186)] 20 (some [2]) nC nC nP
noncomputable def qBq:Code:=cO Tryz.f140
noncomputable def qEk:Array ResultVar:=Tryz.f140.results
theorem qBr (n:Nat) (x0:UInt8) (o0:Lab):evFnP qBp n qBq qEk [.dat .byte x0 o0]=qrA n x0:=by
 kernel_rfl
theorem qpy:qg G Tryz.prog 140 s_z140:=by
 refine sQ (E:=qBp) (c:=qBq) rfl (fun w S hg=>(qb (qpx w S hg) qd)) Tryz.func140 (by kernel_rfl) (by kernel_rfl) (by kernel_rfl) ?_
 intro avs r h
 unfold s_z140 at h
 split at h
 ·simp only [Prod.mk.injEq,true_and] at h
  subst h
  obtain ⟨n,hn⟩:=quG _
  exact ⟨n,_,(qBr n _ _).trans hn,.inl rfl⟩
 ·cases h
noncomputable def E_z95:EnvP:=eQ [(140,s_z140)] 22 (some [2]) (fun x=>if x=3 then some [3,9,10,11] else none) (fun x=>if x=0 then some [3] else if x=1 then some [3,9,10,11] else none) nP
noncomputable def C_z95:Code:=cO Tryz.f95
noncomputable def R_z95:Array ResultVar:=Tryz.f95.results
theorem qtV (K:Ex→Fr→Option AV):∀ (n:Nat) (t3:List Int) (s9:List UInt8) (s10:Int) (s11:Int),evLP E_z95 n (sub C_z95 [1,1,0,1,0,0]) K (frOf [(3,(.dat (.sl (.int .i32)) t3 (some (3,21)))),(9,(.dat (.sl .byte) s9 none)),(10,(.dat (.int .i64) s10 none)),(11,(.dat (.int .i64) s11 none))])=qku (fun t3=>K (.exit 0) (frOf [(3,(.dat (.sl (.int .i32)) t3 (some (3,21))))])) n t3 s9 s10 s11:=by
 intro n
 induction n with
 | zero=>intros; rfl
 | succ n IH =>
 intro t3 s9 s10 s11
 have ih:(fun t3 s9 s10 s11=>evLP E_z95 n (sub C_z95 [1,1,0,1,0,0]) K (frOf [(3,(.dat (.sl (.int .i32)) t3 (some (3,21)))),(9,(.dat (.sl .byte) s9 none)),(10,(.dat (.int .i64) s10 none)),(11,(.dat (.int .i64) s11 none))]))=qku (fun t3=>K (.exit 0) (frOf [(3,(.dat (.sl (.int .i32)) t3 (some (3,21))))])) n:=by
  funext t3 s9 s10 s11
  exact IH t3 s9 s10 s11
 show _=qem (fun t3=>K (.exit 0) (frOf [(3,(.dat (.sl (.int .i32)) t3 (some (3,21))))])) (qku (fun t3=>K (.exit 0) (frOf [(3,(.dat (.sl (.int .i32)) t3 (some (3,21))))])) n) n t3 s9 s10 s11
 rw [← ih]
 kernel_rfl
theorem qnc (n:Nat) (t3:List Int):(qc 0 (E_z95.cutb 0) (kSeq (evCP E_z95 (evLP E_z95 n) (sub C_z95 [1,1,1])) (kFnP E_z95 R_z95))) (.exit 0) (frOf [(3,(.dat (.sl (.int .i32)) t3 (some (3,21))))])=qen n t3:=by
 kernel_rfl
theorem qEl (n:Nat) (s0:List UInt8) (o0:Lab):evFnP E_z95 n C_z95 R_z95 [.dat (.sl .byte) s0 o0]=qvh n s0:=by
 unfold qvh
 rw [show qku (qen n) n=(fun t3 s9 s10 s11=>evLP E_z95 n (sub C_z95 [1,1,0,1,0,0]) (qc 0 (E_z95.cutb 0) (kSeq (evCP E_z95 (evLP E_z95 n) (sub C_z95 [1,1,1])) (kFnP E_z95 R_z95))) (frOf [(3,(.dat (.sl (.int .i32)) t3 (some (3,21)))),(9,(.dat (.sl .byte) s9 none)),(10,(.dat (.int .i64) s10 none)),(11,(.dat (.int .i64) s11 none))])) from by
  funext t3 s9 s10 s11
  refine Eq.trans ?_ (qtV (qc 0 (E_z95.cutb 0) (kSeq (evCP E_z95 (evLP E_z95 n) (sub C_z95 [1,1,1])) (kFnP E_z95 R_z95))) n t3 s9 s10 s11).symm
  rw [show (fun t3=>(qc 0 (E_z95.cutb 0) (kSeq (evCP E_z95 (evLP E_z95 n) (sub C_z95 [1,1,1])) (kFnP E_z95 R_z95))) (.exit 0) (frOf [(3,(.dat (.sl (.int .i32)) t3 (some (3,21))))]))=(qen n) from by
   funext t3
   exact qnc n t3]
  all_goals kernel_rfl]
 kernel_rfl
theorem qtW:qg G Tryz.prog 95 s_z95:=by
 refine sQ (E:=E_z95) (c:=C_z95) rfl (fun w S hg=>(qb (qpy w S hg) qd)) Tryz.func95 (by kernel_rfl) (by kernel_rfl) (by kernel_rfl) ?_
 intro avs r h
 unfold s_z95 at h
 split at h
 ·simp only [Prod.mk.injEq] at h
  obtain ⟨hp,rfl⟩:=h
  obtain ⟨n,hn⟩:=qxZ _ hp
  exact ⟨n,_,(qEl n _ _).trans hn,.inl rfl⟩
 ·cases h
noncomputable def qBs:EnvP:=eQ [] 11 (some [13]) nC nC (fun x=>if x=7 then some (.osl 21 (.int .i32)) else if x=10 then some (.osl 21 (.int .i32)) else none)
noncomputable def qBt:Code:=cO Tryz.f142
noncomputable def qEm:Array ResultVar:=Tryz.f142.results
theorem qBu (n:Nat) (c0:Int) (o0:Lab) (e1:Int) (o1:Lab) (x2:List Int):evFnM qBs n qBt qEm [.dat (.int .i32) c0 o0,.dat (.int .i64) e1 o1,.pbox (.osl 21 (.int .i32)) x2 none]=qrB n c0 e1 x2:=by
 kernel_rfl
theorem qpz:qoB G Tryz.prog 142 s_z142:=by
 refine qcF G_stays (E:=qBs) (fn:=Tryz.f142) (c:=qBt) (qp rfl qea) (fun w S hg=>⟨⟨qd,fun f sp h=>qbB f sp h w S⟩,qbH w S hg,(fun _ _ h=>by cases h),(fun f sp h=>qcs f sp h),(fun f it h=>qct f it h),(fun t kt vt h=>qbL t kt vt h)⟩) follows Tryz.func142 (by kernel_rfl) (by kernel_rfl) (by kernel_rfl) ?_
 intro avs r h
 unfold s_z142 at h
 split at h
 ·simp only [Prod.mk.injEq] at h
  obtain ⟨hp,rfl⟩:=h
  obtain ⟨n,hn⟩:=quX _ _ _ hp
  exact ⟨n,(qBu n _ _ _ _ _).trans hn⟩
 ·cases h
noncomputable def qBv:EnvP:=eQ [] 19 (some [2]) nC (fun x=>if x=0 then some [] else none) nP
noncomputable def qBw:Code:=cO Tryz.f217
noncomputable def qEn:Array ResultVar:=Tryz.f217.results
theorem qBx (n:Nat) (c0:UInt8) (o0:Lab):evFnP qBv n qBw qEn [.dat .byte c0 o0]=qrC n c0:=by
 kernel_rfl
theorem qiK:qg G Tryz.prog 217 s_z217:=by
 refine sQ (E:=qBv) (c:=qBw) rfl (fun w S hg=>qd) Tryz.func217 (by kernel_rfl) (by kernel_rfl) (by kernel_rfl) ?_
 intro avs r h
 unfold s_z217 at h
 split at h
 ·simp only [Prod.mk.injEq,true_and] at h
  subst h
  obtain ⟨n,hn⟩:=quS _
  exact ⟨n,_,(qBx n _ _).trans hn,.inl rfl⟩
 ·cases h
noncomputable def qBy:EnvP:=eQ [] 6 (some [2]) nC nC nP
noncomputable def qBz:Code:=cO Tryz.f235
noncomputable def qEo:Array ResultVar:=Tryz.f235.results
theorem qBA (n:Nat) (c0:UInt8) (o0:Lab):evFnP qBy n qBz qEo [.dat .byte c0 o0]=qrE n c0:=by
 kernel_rfl
theorem qiL:qg G Tryz.prog 235 s_z235:=by
 refine sQ (E:=qBy) (c:=qBz) rfl (fun w S hg=>qd) Tryz.func235 (by kernel_rfl) (by kernel_rfl) (by kernel_rfl) ?_
 intro avs r h
 unfold s_z235 at h
 split at h
 ·simp only [Prod.mk.injEq,true_and] at h
  subst h
  obtain ⟨n,hn⟩:=quT _
  exact ⟨n,_,(qBA n _ _).trans hn,.inl rfl⟩
 ·cases h
noncomputable def qBB:EnvP:=eQ [(235,s_z235)] 40 (some [4]) nC (fun x=>if x=0 then some [1] else none) nP
noncomputable def qBC:Code:=cO Tryz.f236
noncomputable def qEp:Array ResultVar:=Tryz.f236.results
theorem qBD (n:Nat) (first0:UInt8) (o0:Lab) (c1:UInt8) (o1:Lab):evFnP qBB n qBC qEp [.dat .byte first0 o0,.dat .byte c1 o1]=qrF n first0 c1:=by
 kernel_rfl
theorem qpA:qg G Tryz.prog 236 s_z236:=by
 refine sQ (E:=qBB) (c:=qBC) rfl (fun w S hg=>(qb (qiL w S hg) qd)) Tryz.func236 (by kernel_rfl) (by kernel_rfl) (by kernel_rfl) ?_
 intro avs r h
 unfold s_z236 at h
 split at h
 ·simp only [Prod.mk.injEq,true_and] at h
  subst h
  obtain ⟨n,hn⟩:=quU _ _
  exact ⟨n,_,(qBD n _ _ _ _).trans hn,.inl rfl⟩
 ·cases h
end Go.Av
