import Derived.Test.YtopepdfipgfakaaGreatDoorEfEvC
import Derived.Test.YtopepdfipgfakaaGreatDoorEfLayX
import Derived.Test.YtopepdfipgfakaaGreatDoorProg
import Derived.KernelRfl
namespace Go.Av
set_option linter.unusedSimpArgs false
open Go.Proofs
set_option maxRecDepth 100000
set_option linter.unusedVariables false
noncomputable def E_z17:EnvP:=eQ [(44,s_z44),(48,s_z48)] 11 (some [2]) nC nC nP
noncomputable def C_z17:Code:=cO Tryz.f17
noncomputable def R_z17:Array ResultVar:=Tryz.f17.results
theorem qEQ (n:Nat) (charset0:Int) (o0:Lab):evFnP E_z17 n C_z17 R_z17 [.dat (.int .i64) charset0 o0]=qzF n charset0:=by
 kernel_rfl
theorem quJ:qh G Tryz.prog 17 s_z17:=by
 refine sQ (E:=E_z17) (c:=C_z17) rfl (fun w S hg=>(qb (qlT w S hg) (qb (qlW w S hg) qd))) Tryz.func17 (by kernel_rfl) (by kernel_rfl) (by kernel_rfl) ?_
 intro avs r h
 unfold s_z17 at h
 split at h
 ·simp only [Prod.mk.injEq,true_and] at h
  subst h
  obtain ⟨n,hn⟩:=qAp _
  exact ⟨n,_,(qEQ n _ _).trans hn,.inl rfl⟩
 ·cases h
noncomputable def E_z97:EnvP:=eQ [] 23 (some [2]) (fun x=>if x=3 then some [3,9,10,11] else none) (fun x=>if x=0 then some [3] else if x=1 then some [3,9,10,11] else none) (fun x=>if x=8 then some (.psl 21 (.leaf (.int .i32))) else none)
noncomputable def C_z97:Code:=cO Tryz.f97
noncomputable def R_z97:Array ResultVar:=Tryz.f97.results
theorem quK (K:Ex→Fr→Option AV):∀ (n:Nat) (t3:List Int) (s9:List UInt8) (s10:Int) (s11:Int),evLP E_z97 n (sub C_z97 [1,1,0,1,0,0]) K (frOf [(3,(.pv (.psl 21 (.leaf (.int .i32))) t3 none)),(9,(.dat (.sl .byte) s9 none)),(10,(.dat (.int .i64) s10 none)),(11,(.dat (.int .i64) s11 none))])=qkS (fun t3=>K (.exit 0) (frOf [(3,(.pv (.psl 21 (.leaf (.int .i32))) t3 none))])) n t3 s9 s10 s11:=by
 intro n
 induction n with
 | zero=>intros; rfl
 | succ n IH =>
 intro t3 s9 s10 s11
 have ih:(fun t3 s9 s10 s11=>evLP E_z97 n (sub C_z97 [1,1,0,1,0,0]) K (frOf [(3,(.pv (.psl 21 (.leaf (.int .i32))) t3 none)),(9,(.dat (.sl .byte) s9 none)),(10,(.dat (.int .i64) s10 none)),(11,(.dat (.int .i64) s11 none))]))=qkS (fun t3=>K (.exit 0) (frOf [(3,(.pv (.psl 21 (.leaf (.int .i32))) t3 none))])) n:=by
  funext t3 s9 s10 s11
  exact IH t3 s9 s10 s11
 show _=qeh (fun t3=>K (.exit 0) (frOf [(3,(.pv (.psl 21 (.leaf (.int .i32))) t3 none))])) (qkS (fun t3=>K (.exit 0) (frOf [(3,(.pv (.psl 21 (.leaf (.int .i32))) t3 none))])) n) n t3 s9 s10 s11
 rw [← ih]
 kernel_rfl
theorem qnH (n:Nat) (t3:List Int):(qc 0 (E_z97.cutb 0) (kSeq (evCP E_z97 (evLP E_z97 n) (sub C_z97 [1,1,1])) (kFnP E_z97 R_z97))) (.exit 0) (frOf [(3,(.pv (.psl 21 (.leaf (.int .i32))) t3 none))])=qgd n t3:=by
 kernel_rfl
theorem qER (n:Nat) (s0:List UInt8) (o0:Lab):evFnP E_z97 n C_z97 R_z97 [.dat (.sl .byte) s0 o0]=qwi n s0:=by
 unfold qwi
 rw [show qkS (qgd n) n=(fun t3 s9 s10 s11=>evLP E_z97 n (sub C_z97 [1,1,0,1,0,0]) (qc 0 (E_z97.cutb 0) (kSeq (evCP E_z97 (evLP E_z97 n) (sub C_z97 [1,1,1])) (kFnP E_z97 R_z97))) (frOf [(3,(.pv (.psl 21 (.leaf (.int .i32))) t3 none)),(9,(.dat (.sl .byte) s9 none)),(10,(.dat (.int .i64) s10 none)),(11,(.dat (.int .i64) s11 none))])) from by
  funext t3 s9 s10 s11
  refine Eq.trans ?_ (quK (qc 0 (E_z97.cutb 0) (kSeq (evCP E_z97 (evLP E_z97 n) (sub C_z97 [1,1,1])) (kFnP E_z97 R_z97))) n t3 s9 s10 s11).symm
  rw [show (fun t3=>(qc 0 (E_z97.cutb 0) (kSeq (evCP E_z97 (evLP E_z97 n) (sub C_z97 [1,1,1])) (kFnP E_z97 R_z97))) (.exit 0) (frOf [(3,(.pv (.psl 21 (.leaf (.int .i32))) t3 none))]))=(qgd n) from by
   funext t3
   exact qnH n t3]
  all_goals kernel_rfl]
 kernel_rfl
theorem qlY:qh G Tryz.prog 97 s_z97:=by
 refine sQ (E:=E_z97) (c:=C_z97) rfl (fun w S hg=>qd) Tryz.func97 (by kernel_rfl) (by kernel_rfl) (by kernel_rfl) ?_
 intro avs r h
 unfold s_z97 at h
 split at h
 ·simp only [Prod.mk.injEq] at h
  obtain ⟨hp,rfl⟩:=h
  obtain ⟨n,hn⟩:=qyL _ hp
  exact ⟨n,_,(qER n _ _).trans hn,.inl rfl⟩
 ·cases h
noncomputable def qBT:EnvP:=eQ [] 6 (some [2]) nC nC nP
noncomputable def qBU:Code:=cO Tryz.f138
noncomputable def qES:Array ResultVar:=Tryz.f138.results
theorem qBV (n:Nat) (c0:Int) (o0:Lab):evFnP qBT n qBU qES [.dat (.int .i32) c0 o0]=qsq n c0:=by
 kernel_rfl
theorem qqa:qh G Tryz.prog 138 s_z138:=by
 refine sQ (E:=qBT) (c:=qBU) rfl (fun w S hg=>qd) Tryz.func138 (by kernel_rfl) (by kernel_rfl) (by kernel_rfl) ?_
 intro avs r h
 unfold s_z138 at h
 split at h
 ·simp only [Prod.mk.injEq,true_and] at h
  subst h
  obtain ⟨n,hn⟩:=qvx _
  exact ⟨n,_,(qBV n _ _).trans hn,.inl rfl⟩
 ·cases h
noncomputable def E_z93:EnvP:=eQ [(97,s_z97),(138,s_z138)] 24 (some [2]) (fun x=>if x=4 then some [3,4,9,10,11] else none) (fun x=>if x=0 then some [3] else if x=1 then some [3,4,9,10,11] else none) (fun x=>if x=8 then some (.psl 21 (.leaf (.int .i32))) else none)
noncomputable def C_z93:Code:=cO Tryz.f93
noncomputable def R_z93:Array ResultVar:=Tryz.f93.results
theorem quL (K:Ex→Fr→Option AV):∀ (n:Nat) (t3:List Int) (s10:Int) (s11:Int),evLP E_z93 n (sub C_z93 [1,1,1,0,1,0,0]) K (frOf [(3,(.pv (.psl 21 (.leaf (.int .i32))) t3 none)),(4,(.fn 138 [])),(9,(.pval 3 [])),(10,(.dat (.int .i64) s10 none)),(11,(.dat (.int .i64) s11 none))])=qkU (fun t3=>K (.exit 0) (frOf [(3,(.pv (.psl 21 (.leaf (.int .i32))) t3 none))])) n t3 s10 s11:=by
 intro n
 induction n with
 | zero=>intros; rfl
 | succ n IH =>
 intro t3 s10 s11
 have ih:(fun t3 s10 s11=>evLP E_z93 n (sub C_z93 [1,1,1,0,1,0,0]) K (frOf [(3,(.pv (.psl 21 (.leaf (.int .i32))) t3 none)),(4,(.fn 138 [])),(9,(.pval 3 [])),(10,(.dat (.int .i64) s10 none)),(11,(.dat (.int .i64) s11 none))]))=qkU (fun t3=>K (.exit 0) (frOf [(3,(.pv (.psl 21 (.leaf (.int .i32))) t3 none))])) n:=by
  funext t3 s10 s11
  exact IH t3 s10 s11
 show _=qei (fun t3=>K (.exit 0) (frOf [(3,(.pv (.psl 21 (.leaf (.int .i32))) t3 none))])) (qkU (fun t3=>K (.exit 0) (frOf [(3,(.pv (.psl 21 (.leaf (.int .i32))) t3 none))])) n) n t3 s10 s11
 rw [← ih]
 kernel_rfl
theorem qnI (n:Nat) (t3:List Int):(qc 0 (E_z93.cutb 0) (kSeq (evCP E_z93 (evLP E_z93 n) (sub C_z93 [1,1,1,1])) (kFnP E_z93 R_z93))) (.exit 0) (frOf [(3,(.pv (.psl 21 (.leaf (.int .i32))) t3 none))])=qge n t3:=by
 kernel_rfl
theorem qET (n:Nat) (s0:List UInt8) (o0:Lab):evFnP E_z93 n C_z93 R_z93 [.dat (.sl .byte) s0 o0]=qwj n s0:=by
 unfold qwj
 rw [show qkU (qge n) n=(fun t3 s10 s11=>evLP E_z93 n (sub C_z93 [1,1,1,0,1,0,0]) (qc 0 (E_z93.cutb 0) (kSeq (evCP E_z93 (evLP E_z93 n) (sub C_z93 [1,1,1,1])) (kFnP E_z93 R_z93))) (frOf [(3,(.pv (.psl 21 (.leaf (.int .i32))) t3 none)),(4,(.fn 138 [])),(9,(.pval 3 [])),(10,(.dat (.int .i64) s10 none)),(11,(.dat (.int .i64) s11 none))])) from by
  funext t3 s10 s11
  refine Eq.trans ?_ (quL (qc 0 (E_z93.cutb 0) (kSeq (evCP E_z93 (evLP E_z93 n) (sub C_z93 [1,1,1,1])) (kFnP E_z93 R_z93))) n t3 s10 s11).symm
  rw [show (fun t3=>(qc 0 (E_z93.cutb 0) (kSeq (evCP E_z93 (evLP E_z93 n) (sub C_z93 [1,1,1,1])) (kFnP E_z93 R_z93))) (.exit 0) (frOf [(3,(.pv (.psl 21 (.leaf (.int .i32))) t3 none))]))=(qge n) from by
   funext t3
   exact qnI n t3]
  all_goals kernel_rfl]
 kernel_rfl
theorem quM:qh G Tryz.prog 93 s_z93:=by
 refine sQ (E:=E_z93) (c:=C_z93) rfl (fun w S hg=>(qb (qlY w S hg) (qb (qqa w S hg) qd))) Tryz.func93 (by kernel_rfl) (by kernel_rfl) (by kernel_rfl) ?_
 intro avs r h
 unfold s_z93 at h
 split at h
 ·simp only [Prod.mk.injEq] at h
  obtain ⟨hp,rfl⟩:=h
  obtain ⟨n,hn⟩:=qyM _ hp
  exact ⟨n,_,(qET n _ _).trans hn,.inl rfl⟩
 ·cases h
noncomputable def qBW:EnvP:=eQ [] 10 (some [0]) nC nC nP
noncomputable def qBX:Code:=cO Tryz.f185
noncomputable def qEU:Array ResultVar:=Tryz.f185.results
theorem qBY (n:Nat)  : evFnP qBW n qBX qEU []=qxy n  := by
 kernel_rfl
theorem qqb:qh G Tryz.prog 185 s_z185:=by
 refine sQ (E:=qBW) (c:=qBX) rfl (fun w S hg=>qd) Tryz.func185 (by kernel_rfl) (by kernel_rfl) (by kernel_rfl) ?_
 intro avs r h
 unfold s_z185 at h
 split at h
 ·simp only [Prod.mk.injEq,true_and] at h
  subst h
  obtain ⟨n,hn⟩:=qwP
  exact ⟨n,_,(qBY n ).trans hn,.inl rfl⟩
 ·cases h
noncomputable def qaV:EnvP:=eQ [(185,s_z185)] 18 (some [2]) (fun x=>if x=2 then some [0,5,6] else none) (fun x=>if x=0 then some [0] else if x=1 then some [0,5,6] else none) nP
noncomputable def qhM:Code:=cO Tryz.f139
noncomputable def qqc:Array ResultVar:=Tryz.f139.results
theorem qqd (K:Ex→Fr→Option AV):∀ (n:Nat) (x0:UInt8) (s5:List (UInt8×(Int×Unit))) (s6:Int),evLP qaV n (sub qhM [1,0,1,0,0]) K (frOf [(0,(.dat .byte x0 none)),(5,(.dat (.arr 8 (.pair .byte (.pair (.int .i32) .unit))) s5 none)),(6,(.dat (.int .i64) s6 none))])=qgP (fun s2=>K .ret (frOf [(2,(.dat (.int .i32) s2 none))])) (fun x0=>K (.exit 0) (frOf [(0,(.dat .byte x0 none))])) n x0 s5 s6:=by
 intro n
 induction n with
 | zero=>intros; rfl
 | succ n IH =>
 intro x0 s5 s6
 have ih:(fun x0 s5 s6=>evLP qaV n (sub qhM [1,0,1,0,0]) K (frOf [(0,(.dat .byte x0 none)),(5,(.dat (.arr 8 (.pair .byte (.pair (.int .i32) .unit))) s5 none)),(6,(.dat (.int .i64) s6 none))]))=qgP (fun s2=>K .ret (frOf [(2,(.dat (.int .i32) s2 none))])) (fun x0=>K (.exit 0) (frOf [(0,(.dat .byte x0 none))])) n:=by
  funext x0 s5 s6
  exact IH x0 s5 s6
 show _=qmB (fun s2=>K .ret (frOf [(2,(.dat (.int .i32) s2 none))])) (fun x0=>K (.exit 0) (frOf [(0,(.dat .byte x0 none))])) (qgP (fun s2=>K .ret (frOf [(2,(.dat (.int .i32) s2 none))])) (fun x0=>K (.exit 0) (frOf [(0,(.dat .byte x0 none))])) n) n x0 s5 s6
 rw [← ih]
 kernel_rfl
theorem qks (n:Nat) (x0:UInt8):(qc 0 (qaV.cutb 0) (kSeq (evCP qaV (evLP qaV n) (sub qhM [1,1])) (kFnP qaV qqc))) (.exit 0) (frOf [(0,(.dat .byte x0 none))])=qff n x0:=by
 kernel_rfl
theorem qBZ (n:Nat) (x0:UInt8) (o0:Lab):evFnP qaV n qhM qqc [.dat .byte x0 o0]=qmC n x0:=by
 unfold qmC
 rw [show qgP qam (qff n) n=(fun x0 s5 s6=>evLP qaV n (sub qhM [1,0,1,0,0]) (qc 0 (qaV.cutb 0) (kSeq (evCP qaV (evLP qaV n) (sub qhM [1,1])) (kFnP qaV qqc))) (frOf [(0,(.dat .byte x0 none)),(5,(.dat (.arr 8 (.pair .byte (.pair (.int .i32) .unit))) s5 none)),(6,(.dat (.int .i64) s6 none))])) from by
  funext x0 s5 s6
  refine Eq.trans ?_ (qqd (qc 0 (qaV.cutb 0) (kSeq (evCP qaV (evLP qaV n) (sub qhM [1,1])) (kFnP qaV qqc))) n x0 s5 s6).symm
  rw [show (fun x0=>(qc 0 (qaV.cutb 0) (kSeq (evCP qaV (evLP qaV n) (sub qhM [1,1])) (kFnP qaV qqc))) (.exit 0) (frOf [(0,(.dat .byte x0 none))]))=(qff n) from by
   funext x0
   exact qks n x0]
  all_goals kernel_rfl]
 kernel_rfl
theorem qqe:qh G Tryz.prog 139 s_z139:=by
 refine sQ (E:=qaV) (c:=qhM) rfl (fun w S hg=>(qb (qqb w S hg) qd)) Tryz.func139 (by kernel_rfl) (by kernel_rfl) (by kernel_rfl) ?_
 intro avs r h
 unfold s_z139 at h
 split at h
 ·simp only [Prod.mk.injEq,true_and] at h
  subst h
  obtain ⟨n,hn⟩:=qvy _
  exact ⟨n,_,(qBZ n _ _).trans hn,.inl rfl⟩
 ·cases h
noncomputable def E_z94:EnvP:=eQ [(139,s_z139)] 19 (some [2]) (fun x=>if x=3 then some [3,6,7,8] else none) (fun x=>if x=0 then some [3] else if x=1 then some [3,6,7,8] else none) nP
noncomputable def C_z94:Code:=cO Tryz.f94
noncomputable def R_z94:Array ResultVar:=Tryz.f94.results
theorem quN (K:Ex→Fr→Option AV):∀ (n:Nat) (t3:List Int) (s6:List UInt8) (s7:Int) (s8:Int),evLP E_z94 n (sub C_z94 [1,1,0,1,0,0]) K (frOf [(3,(.dat (.sl (.int .i32)) t3 (some (3,21)))),(6,(.dat (.sl .byte) s6 none)),(7,(.dat (.int .i64) s7 none)),(8,(.dat (.int .i64) s8 none))])=qkV (fun t3=>K (.exit 0) (frOf [(3,(.dat (.sl (.int .i32)) t3 (some (3,21))))])) n t3 s6 s7 s8:=by
 intro n
 induction n with
 | zero=>intros; rfl
 | succ n IH =>
 intro t3 s6 s7 s8
 have ih:(fun t3 s6 s7 s8=>evLP E_z94 n (sub C_z94 [1,1,0,1,0,0]) K (frOf [(3,(.dat (.sl (.int .i32)) t3 (some (3,21)))),(6,(.dat (.sl .byte) s6 none)),(7,(.dat (.int .i64) s7 none)),(8,(.dat (.int .i64) s8 none))]))=qkV (fun t3=>K (.exit 0) (frOf [(3,(.dat (.sl (.int .i32)) t3 (some (3,21))))])) n:=by
  funext t3 s6 s7 s8
  exact IH t3 s6 s7 s8
 show _=qej (fun t3=>K (.exit 0) (frOf [(3,(.dat (.sl (.int .i32)) t3 (some (3,21))))])) (qkV (fun t3=>K (.exit 0) (frOf [(3,(.dat (.sl (.int .i32)) t3 (some (3,21))))])) n) n t3 s6 s7 s8
 rw [← ih]
 kernel_rfl
theorem qnJ (n:Nat) (t3:List Int):(qc 0 (E_z94.cutb 0) (kSeq (evCP E_z94 (evLP E_z94 n) (sub C_z94 [1,1,1])) (kFnP E_z94 R_z94))) (.exit 0) (frOf [(3,(.dat (.sl (.int .i32)) t3 (some (3,21))))])=qek n t3:=by
 kernel_rfl
theorem qEV (n:Nat) (s0:List UInt8) (o0:Lab):evFnP E_z94 n C_z94 R_z94 [.dat (.sl .byte) s0 o0]=qwk n s0:=by
 unfold qwk
 rw [show qkV (qek n) n=(fun t3 s6 s7 s8=>evLP E_z94 n (sub C_z94 [1,1,0,1,0,0]) (qc 0 (E_z94.cutb 0) (kSeq (evCP E_z94 (evLP E_z94 n) (sub C_z94 [1,1,1])) (kFnP E_z94 R_z94))) (frOf [(3,(.dat (.sl (.int .i32)) t3 (some (3,21)))),(6,(.dat (.sl .byte) s6 none)),(7,(.dat (.int .i64) s7 none)),(8,(.dat (.int .i64) s8 none))])) from by
  funext t3 s6 s7 s8
  refine Eq.trans ?_ (quN (qc 0 (E_z94.cutb 0) (kSeq (evCP E_z94 (evLP E_z94 n) (sub C_z94 [1,1,1])) (kFnP E_z94 R_z94))) n t3 s6 s7 s8).symm
  rw [show (fun t3=>(qc 0 (E_z94.cutb 0) (kSeq (evCP E_z94 (evLP E_z94 n) (sub C_z94 [1,1,1])) (kFnP E_z94 R_z94))) (.exit 0) (frOf [(3,(.dat (.sl (.int .i32)) t3 (some (3,21))))]))=(qek n) from by
   funext t3
   exact qnJ n t3]
  all_goals kernel_rfl]
 kernel_rfl
theorem quO:qh G Tryz.prog 94 s_z94:=by
 refine sQ (E:=E_z94) (c:=C_z94) rfl (fun w S hg=>(qb (qqe w S hg) qd)) Tryz.func94 (by kernel_rfl) (by kernel_rfl) (by kernel_rfl) ?_
 intro avs r h
 unfold s_z94 at h
 split at h
 ·simp only [Prod.mk.injEq] at h
  obtain ⟨hp,rfl⟩:=h
  obtain ⟨n,hn⟩:=qyN _ hp
  exact ⟨n,_,(qEV n _ _).trans hn,.inl rfl⟩
 ·cases h
noncomputable def qCa:EnvP:=⟨⟨tiOf tis,fnsOf [],cnsOf [],[],4,(fun _=>none),(fun _=>none),some [0]⟩,fun _=>none,fun _=>none,(fun x=>if x=500002 then [1] else []),fun _=>none,fun _=>none,fun _=>none,fun _=>none⟩
noncomputable def qCb:Code:=cO Tryz.f186
noncomputable def qEW:Array ResultVar:=Tryz.f186.results
theorem qCc (n:Nat)  : evFnP qCa n qCb qEW []=qxA n  := by
 kernel_rfl
theorem qqf:qh G Tryz.prog 186 s_z186:=by
 refine qW G_stays (E:=qCa) (fn:=Tryz.f186) (c:=qCb) (qr rfl qeN) (fun w S hg=>⟨⟨qd,fun f sp h=>qbM f sp h w S⟩,qbY w S hg,(fun _ _ h=>by cases h),(fun f sp h=>qcv f sp h),(fun f it h=>qcx f it h),(fun t kt vt h=>qcw t kt vt h)⟩) follows Tryz.func186 (by kernel_rfl) (by kernel_rfl) (by kernel_rfl) ?_
 intro avs r h
 unfold s_z186 at h
 split at h
 ·simp only [Prod.mk.injEq,true_and] at h
  subst h
  obtain ⟨n,hn⟩:=qwQ
  exact ⟨n,_,(qCc n ).trans hn,.inl rfl⟩
 ·cases h
noncomputable def qCd:EnvP:=eQ [(186,s_z186)] 20 (some [2]) nC nC nP
noncomputable def qCe:Code:=cO Tryz.f140
noncomputable def qEX:Array ResultVar:=Tryz.f140.results
theorem qCf (n:Nat) (x0:UInt8) (o0:Lab):evFnP qCd n qCe qEX [.dat .byte x0 o0]=qsu n x0:=by
 kernel_rfl
theorem qqg:qh G Tryz.prog 140 s_z140:=by
 refine sQ (E:=qCd) (c:=qCe) rfl (fun w S hg=>(qb (qqf w S hg) qd)) Tryz.func140 (by kernel_rfl) (by kernel_rfl) (by kernel_rfl) ?_
 intro avs r h
 unfold s_z140 at h
 split at h
 ·simp only [Prod.mk.injEq,true_and] at h
  subst h
  obtain ⟨n,hn⟩:=qvz _
  exact ⟨n,_,(qCf n _ _).trans hn,.inl rfl⟩
 ·cases h
noncomputable def E_z95:EnvP:=eQ [(140,s_z140)] 22 (some [2]) (fun x=>if x=3 then some [3,9,10,11] else none) (fun x=>if x=0 then some [3] else if x=1 then some [3,9,10,11] else none) nP
noncomputable def C_z95:Code:=cO Tryz.f95
noncomputable def R_z95:Array ResultVar:=Tryz.f95.results
theorem quP (K:Ex→Fr→Option AV):∀ (n:Nat) (t3:List Int) (s9:List UInt8) (s10:Int) (s11:Int),evLP E_z95 n (sub C_z95 [1,1,0,1,0,0]) K (frOf [(3,(.dat (.sl (.int .i32)) t3 (some (3,21)))),(9,(.dat (.sl .byte) s9 none)),(10,(.dat (.int .i64) s10 none)),(11,(.dat (.int .i64) s11 none))])=qkW (fun t3=>K (.exit 0) (frOf [(3,(.dat (.sl (.int .i32)) t3 (some (3,21))))])) n t3 s9 s10 s11:=by
 intro n
 induction n with
 | zero=>intros; rfl
 | succ n IH =>
 intro t3 s9 s10 s11
 have ih:(fun t3 s9 s10 s11=>evLP E_z95 n (sub C_z95 [1,1,0,1,0,0]) K (frOf [(3,(.dat (.sl (.int .i32)) t3 (some (3,21)))),(9,(.dat (.sl .byte) s9 none)),(10,(.dat (.int .i64) s10 none)),(11,(.dat (.int .i64) s11 none))]))=qkW (fun t3=>K (.exit 0) (frOf [(3,(.dat (.sl (.int .i32)) t3 (some (3,21))))])) n:=by
  funext t3 s9 s10 s11
  exact IH t3 s9 s10 s11
 show _=qel (fun t3=>K (.exit 0) (frOf [(3,(.dat (.sl (.int .i32)) t3 (some (3,21))))])) (qkW (fun t3=>K (.exit 0) (frOf [(3,(.dat (.sl (.int .i32)) t3 (some (3,21))))])) n) n t3 s9 s10 s11
 rw [← ih]
 kernel_rfl
theorem qnK (n:Nat) (t3:List Int):(qc 0 (E_z95.cutb 0) (kSeq (evCP E_z95 (evLP E_z95 n) (sub C_z95 [1,1,1])) (kFnP E_z95 R_z95))) (.exit 0) (frOf [(3,(.dat (.sl (.int .i32)) t3 (some (3,21))))])=qem n t3:=by
 kernel_rfl
theorem qEY (n:Nat) (s0:List UInt8) (o0:Lab):evFnP E_z95 n C_z95 R_z95 [.dat (.sl .byte) s0 o0]=qwl n s0:=by
 unfold qwl
 rw [show qkW (qem n) n=(fun t3 s9 s10 s11=>evLP E_z95 n (sub C_z95 [1,1,0,1,0,0]) (qc 0 (E_z95.cutb 0) (kSeq (evCP E_z95 (evLP E_z95 n) (sub C_z95 [1,1,1])) (kFnP E_z95 R_z95))) (frOf [(3,(.dat (.sl (.int .i32)) t3 (some (3,21)))),(9,(.dat (.sl .byte) s9 none)),(10,(.dat (.int .i64) s10 none)),(11,(.dat (.int .i64) s11 none))])) from by
  funext t3 s9 s10 s11
  refine Eq.trans ?_ (quP (qc 0 (E_z95.cutb 0) (kSeq (evCP E_z95 (evLP E_z95 n) (sub C_z95 [1,1,1])) (kFnP E_z95 R_z95))) n t3 s9 s10 s11).symm
  rw [show (fun t3=>(qc 0 (E_z95.cutb 0) (kSeq (evCP E_z95 (evLP E_z95 n) (sub C_z95 [1,1,1])) (kFnP E_z95 R_z95))) (.exit 0) (frOf [(3,(.dat (.sl (.int .i32)) t3 (some (3,21))))]))=(qem n) from by
   funext t3
   exact qnK n t3]
  all_goals kernel_rfl]
 kernel_rfl
theorem quQ:qh G Tryz.prog 95 s_z95:=by
 refine sQ (E:=E_z95) (c:=C_z95) rfl (fun w S hg=>(qb (qqg w S hg) qd)) Tryz.func95 (by kernel_rfl) (by kernel_rfl) (by kernel_rfl) ?_
 intro avs r h
 unfold s_z95 at h
 split at h
 ·simp only [Prod.mk.injEq] at h
  obtain ⟨hp,rfl⟩:=h
  obtain ⟨n,hn⟩:=qyP _ hp
  exact ⟨n,_,(qEY n _ _).trans hn,.inl rfl⟩
 ·cases h
end Go.Av
