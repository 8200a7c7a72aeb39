import Derived.Test.YtopepdfipgfakaaGreatDoorEfEvD
import Derived.Test.YtopepdfipgfakaaGreatDoorEfLayX
import Derived.Test.YtopepdfipgfakaaGreatDoorProg
import Derived.KernelRfl
namespace Go.Av
set_option linter.unusedSimpArgs false
open Go.Proofs
set_option maxRecDepth 100000
set_option linter.unusedVariables false
noncomputable def qCg:EnvP:=eQ [] 11 (some [13]) nC nC (fun x=>if x=7 then some (.osl 21 (.int .i32)) else if x=10 then some (.osl 21 (.int .i32)) else none)
noncomputable def qCh:Code:=cO Tryz.f142
noncomputable def qEZ:Array ResultVar:=Tryz.f142.results
theorem qCi (n:Nat) (c0:Int) (o0:Lab) (e1:Int) (o1:Lab) (x2:List Int):evFnM qCg n qCh qEZ [.dat (.int .i32) c0 o0,.dat (.int .i64) e1 o1,.pbox (.osl 21 (.int .i32)) x2 none]=qsv n c0 e1 x2:=by
 kernel_rfl
theorem qqh:qpf G Tryz.prog 142 s_z142:=by
 refine qcK G_stays (E:=qCg) (fn:=Tryz.f142) (c:=qCh) (qr rfl qeN) (fun w S hg=>⟨⟨qd,fun f sp h=>qbM f sp h w S⟩,qbY w S hg,(fun _ _ h=>by cases h),(fun f sp h=>qcv f sp h),(fun f it h=>qcx f it h),(fun t kt vt h=>qcw t kt vt h)⟩) follows Tryz.func142 (by kernel_rfl) (by kernel_rfl) (by kernel_rfl) ?_
 intro avs r h
 unfold s_z142 at h
 split at h
 ·simp only [Prod.mk.injEq] at h
  obtain ⟨hp,rfl⟩:=h
  obtain ⟨n,hn⟩:=qwa _ _ _ hp
  exact ⟨n,(qCi n _ _ _ _ _).trans hn⟩
 ·cases h
noncomputable def qCj:EnvP:=eQ [] 19 (some [2]) nC (fun x=>if x=0 then some [] else none) nP
noncomputable def qCk:Code:=cO Tryz.f217
noncomputable def qFa:Array ResultVar:=Tryz.f217.results
theorem qCl (n:Nat) (c0:UInt8) (o0:Lab):evFnP qCj n qCk qFa [.dat .byte c0 o0]=qsw n c0:=by
 kernel_rfl
theorem qiZ:qh G Tryz.prog 217 s_z217:=by
 refine sQ (E:=qCj) (c:=qCk) rfl (fun w S hg=>qd) Tryz.func217 (by kernel_rfl) (by kernel_rfl) (by kernel_rfl) ?_
 intro avs r h
 unfold s_z217 at h
 split at h
 ·simp only [Prod.mk.injEq,true_and] at h
  subst h
  obtain ⟨n,hn⟩:=qvQ _
  exact ⟨n,_,(qCl n _ _).trans hn,.inl rfl⟩
 ·cases h
noncomputable def qCm:EnvP:=eQ [] 6 (some [2]) nC nC nP
noncomputable def qCn:Code:=cO Tryz.f235
noncomputable def qFb:Array ResultVar:=Tryz.f235.results
theorem qCo (n:Nat) (c0:UInt8) (o0:Lab):evFnP qCm n qCn qFb [.dat .byte c0 o0]=qsy n c0:=by
 kernel_rfl
theorem qja:qh G Tryz.prog 235 s_z235:=by
 refine sQ (E:=qCm) (c:=qCn) rfl (fun w S hg=>qd) Tryz.func235 (by kernel_rfl) (by kernel_rfl) (by kernel_rfl) ?_
 intro avs r h
 unfold s_z235 at h
 split at h
 ·simp only [Prod.mk.injEq,true_and] at h
  subst h
  obtain ⟨n,hn⟩:=qvR _
  exact ⟨n,_,(qCo n _ _).trans hn,.inl rfl⟩
 ·cases h
noncomputable def qCp:EnvP:=eQ [(235,s_z235)] 40 (some [4]) nC (fun x=>if x=0 then some [1] else none) nP
noncomputable def qCq:Code:=cO Tryz.f236
noncomputable def qFc:Array ResultVar:=Tryz.f236.results
theorem qCr (n:Nat) (first0:UInt8) (o0:Lab) (c1:UInt8) (o1:Lab):evFnP qCp n qCq qFc [.dat .byte first0 o0,.dat .byte c1 o1]=qsz n first0 c1:=by
 kernel_rfl
theorem qqi:qh G Tryz.prog 236 s_z236:=by
 refine sQ (E:=qCp) (c:=qCq) rfl (fun w S hg=>(qb (qja w S hg) qd)) Tryz.func236 (by kernel_rfl) (by kernel_rfl) (by kernel_rfl) ?_
 intro avs r h
 unfold s_z236 at h
 split at h
 ·simp only [Prod.mk.injEq,true_and] at h
  subst h
  obtain ⟨n,hn⟩:=qvS _ _
  exact ⟨n,_,(qCr n _ _ _ _).trans hn,.inl rfl⟩
 ·cases h
noncomputable def qaW:EnvP:=eQ [(217,s_z217),(235,s_z235),(236,s_z236)] 45 (some [2]) (fun x=>if x=2 then some [0,3] else none) (fun x=>if x=0 then some [0,3] else if x=1 then some [0,3] else none) nP
noncomputable def qhN:Code:=cO Tryz.f216
noncomputable def qqj:Array ResultVar:=Tryz.f216.results
theorem qqk (K:Ex→Fr→Option AV):∀ (n:Nat) (s0:List UInt8) (n3:Int),evLP qaW n (sub qhN [1,1,0,0,0]) K (frOf [(0,(.dat (.sl .byte) s0 none)),(3,(.dat (.int .i64) n3 none))])=qeA (fun s2=>K .ret (frOf [(2,(.dat (.int .i64) s2 none))])) (fun s0 n3=>K (.exit 0) (frOf [(0,(.dat (.sl .byte) s0 none)),(3,(.dat (.int .i64) n3 none))])) n s0 n3:=by
 intro n
 induction n with
 | zero=>intros; rfl
 | succ n IH =>
 intro s0 n3
 have ih:(fun s0 n3=>evLP qaW n (sub qhN [1,1,0,0,0]) K (frOf [(0,(.dat (.sl .byte) s0 none)),(3,(.dat (.int .i64) n3 none))]))=qeA (fun s2=>K .ret (frOf [(2,(.dat (.int .i64) s2 none))])) (fun s0 n3=>K (.exit 0) (frOf [(0,(.dat (.sl .byte) s0 none)),(3,(.dat (.int .i64) n3 none))])) n:=by
  funext s0 n3
  exact IH s0 n3
 show _=qaR (fun s2=>K .ret (frOf [(2,(.dat (.int .i64) s2 none))])) (fun s0 n3=>K (.exit 0) (frOf [(0,(.dat (.sl .byte) s0 none)),(3,(.dat (.int .i64) n3 none))])) (qeA (fun s2=>K .ret (frOf [(2,(.dat (.int .i64) s2 none))])) (fun s0 n3=>K (.exit 0) (frOf [(0,(.dat (.sl .byte) s0 none)),(3,(.dat (.int .i64) n3 none))])) n) n s0 n3
 rw [← ih]
 kernel_rfl
theorem qkt (n:Nat) (s0:List UInt8) (n3:Int):(qc 0 (qaW.cutb 0) (kSeq (evCP qaW (evLP qaW n) (sub qhN [1,1,1])) (kFnP qaW qqj))) (.exit 0) (frOf [(0,(.dat (.sl .byte) s0 none)),(3,(.dat (.int .i64) n3 none))])=qR n s0 n3:=by
 kernel_rfl
theorem qCs (n:Nat) (s0:List UInt8) (o0:Lab):evFnP qaW n qhN qqj [.dat (.sl .byte) s0 o0]=qmD n s0:=by
 unfold qmD
 rw [show qeA qan (qR n) n=(fun s0 n3=>evLP qaW n (sub qhN [1,1,0,0,0]) (qc 0 (qaW.cutb 0) (kSeq (evCP qaW (evLP qaW n) (sub qhN [1,1,1])) (kFnP qaW qqj))) (frOf [(0,(.dat (.sl .byte) s0 none)),(3,(.dat (.int .i64) n3 none))])) from by
  funext s0 n3
  refine Eq.trans ?_ (qqk (qc 0 (qaW.cutb 0) (kSeq (evCP qaW (evLP qaW n) (sub qhN [1,1,1])) (kFnP qaW qqj))) n s0 n3).symm
  rw [show (fun s0 n3=>(qc 0 (qaW.cutb 0) (kSeq (evCP qaW (evLP qaW n) (sub qhN [1,1,1])) (kFnP qaW qqj))) (.exit 0) (frOf [(0,(.dat (.sl .byte) s0 none)),(3,(.dat (.int .i64) n3 none))]))=(qR n) from by
   funext s0 n3
   exact qkt n s0 n3]
  all_goals kernel_rfl]
 kernel_rfl
theorem qql:qh G Tryz.prog 216 s_z216:=by
 refine sQ (E:=qaW) (c:=qhN) rfl (fun w S hg=>(qb (qiZ w S hg) (qb (qja w S hg) (qb (qqi w S hg) qd)))) Tryz.func216 (by kernel_rfl) (by kernel_rfl) (by kernel_rfl) ?_
 intro avs r h
 unfold s_z216 at h
 split at h
 ·simp only [Prod.mk.injEq] at h
  obtain ⟨hp,rfl⟩:=h
  obtain ⟨n,hn⟩:=qvT _ hp
  exact ⟨n,_,(qCs n _ _).trans hn,.inl rfl⟩
 ·cases h
noncomputable def qCt:EnvP:=eQ [] 10 (some [2]) nC (fun x=>if x=0 then some [] else none) nP
noncomputable def qCu:Code:=cO Tryz.f218
noncomputable def qFd:Array ResultVar:=Tryz.f218.results
theorem qCv (n:Nat) (n0:Int) (o0:Lab):evFnP qCt n qCu qFd [.dat (.int .i64) n0 o0]=qsA n n0:=by
 kernel_rfl
theorem qqm:qh G Tryz.prog 218 s_z218:=by
 refine sQ (E:=qCt) (c:=qCu) rfl (fun w S hg=>qd) Tryz.func218 (by kernel_rfl) (by kernel_rfl) (by kernel_rfl) ?_
 intro avs r h
 unfold s_z218 at h
 split at h
 ·simp only [Prod.mk.injEq,true_and] at h
  subst h
  obtain ⟨n,hn⟩:=qwO _
  exact ⟨n,_,(qCv n _ _).trans hn,.inl rfl⟩
 ·cases h
noncomputable def qaX:EnvP:=eQ [(216,s_z216),(217,s_z217),(218,s_z218)] 63 (some [2,3,4]) (fun x=>if x=12 then some [5,6,48,49,50] else none) (fun x=>if x=0 then some [0,5] else if x=1 then some [5,6] else if x=2 then some [5,6,48,49,50] else none) nP
noncomputable def qhO:Code:=cO Tryz.f187
noncomputable def qqn:Array ResultVar:=Tryz.f187.results
theorem qnL (K:Ex→Fr→Option AV):∀ (n:Nat) (n5:Int) (c6:Int) (s48:List UInt8) (s49:Int) (s50:Int),evLP qaX n (sub qhO [1,1,1,1,1,0,1,0,0]) K (frOf [(5,(.dat (.int .i64) n5 none)),(6,(.dat (.int .i32) c6 none)),(48,(.dat (.sl .byte) s48 none)),(49,(.dat (.int .i64) s49 none)),(50,(.dat (.int .i64) s50 none))])=qca (fun n5 c6=>K (.exit 1) (frOf [(5,(.dat (.int .i64) n5 none)),(6,(.dat (.int .i32) c6 none))])) n n5 c6 s48 s49 s50:=by
 intro n
 induction n with
 | zero=>intros; rfl
 | succ n IH =>
 intro n5 c6 s48 s49 s50
 have ih:(fun n5 c6 s48 s49 s50=>evLP qaX n (sub qhO [1,1,1,1,1,0,1,0,0]) K (frOf [(5,(.dat (.int .i64) n5 none)),(6,(.dat (.int .i32) c6 none)),(48,(.dat (.sl .byte) s48 none)),(49,(.dat (.int .i64) s49 none)),(50,(.dat (.int .i64) s50 none))]))=qca (fun n5 c6=>K (.exit 1) (frOf [(5,(.dat (.int .i64) n5 none)),(6,(.dat (.int .i32) c6 none))])) n:=by
  funext n5 c6 s48 s49 s50
  exact IH n5 c6 s48 s49 s50
 show _=qbr (fun n5 c6=>K (.exit 1) (frOf [(5,(.dat (.int .i64) n5 none)),(6,(.dat (.int .i32) c6 none))])) (qca (fun n5 c6=>K (.exit 1) (frOf [(5,(.dat (.int .i64) n5 none)),(6,(.dat (.int .i32) c6 none))])) n) n n5 c6 s48 s49 s50
 rw [← ih]
 kernel_rfl
theorem qjb (n:Nat) (n5:Int) (c6:Int):(qc 1 (qaX.cutb 1) (kSeq (evCP qaX (evLP qaX n) (sub qhO [1,1,1,1,1,1])) (kFnP qaX qqn))) (.exit 1) (frOf [(5,(.dat (.int .i64) n5 none)),(6,(.dat (.int .i32) c6 none))])=qbs n n5 c6:=by
 kernel_rfl
theorem qCw (n:Nat) (s0:List UInt8) (o0:Lab):evFnP qaX n qhO qqn [.dat (.sl .byte) s0 o0]=qmE n s0:=by
 unfold qmE
 rw [show qca (qbs n) n=(fun n5 c6 s48 s49 s50=>evLP qaX n (sub qhO [1,1,1,1,1,0,1,0,0]) (qc 1 (qaX.cutb 1) (kSeq (evCP qaX (evLP qaX n) (sub qhO [1,1,1,1,1,1])) (kFnP qaX qqn))) (frOf [(5,(.dat (.int .i64) n5 none)),(6,(.dat (.int .i32) c6 none)),(48,(.dat (.sl .byte) s48 none)),(49,(.dat (.int .i64) s49 none)),(50,(.dat (.int .i64) s50 none))])) from by
  funext n5 c6 s48 s49 s50
  refine Eq.trans ?_ (qnL (qc 1 (qaX.cutb 1) (kSeq (evCP qaX (evLP qaX n) (sub qhO [1,1,1,1,1,1])) (kFnP qaX qqn))) n n5 c6 s48 s49 s50).symm
  rw [show (fun n5 c6=>(qc 1 (qaX.cutb 1) (kSeq (evCP qaX (evLP qaX n) (sub qhO [1,1,1,1,1,1])) (kFnP qaX qqn))) (.exit 1) (frOf [(5,(.dat (.int .i64) n5 none)),(6,(.dat (.int .i32) c6 none))]))=(qbs n) from by
   funext n5 c6
   exact qjb n n5 c6]
  all_goals kernel_rfl]
 kernel_rfl
theorem qqo:qh G Tryz.prog 187 s_z187:=by
 refine sQ (E:=qaX) (c:=qhO) rfl (fun w S hg=>(qb (qql w S hg) (qb (qiZ w S hg) (qb (qqm w S hg) qd)))) Tryz.func187 (by kernel_rfl) (by kernel_rfl) (by kernel_rfl) ?_
 intro avs r h
 unfold s_z187 at h
 split at h
 ·simp only [Prod.mk.injEq] at h
  obtain ⟨hp,rfl⟩:=h
  obtain ⟨n,hn⟩:=qvU _ hp
  exact ⟨n,_,(qCw n _ _).trans hn,.inl rfl⟩
 ·cases h
noncomputable def qea:EnvP:=⟨⟨tiOf tis,fnsOf [(187,s_z187)],cnsOf [],[],23,(fun x=>if x=0 then some [0,1,24] else none),(fun x=>if x=0 then some [24] else if x=1 then some [0,1,24] else none),some [24]⟩,fun _=>none,fun _=>none,fun _=>[],(fun x=>if x=142 then some s_z142 else none),fun _=>none,fun _=>none,fun _=>none⟩
noncomputable def qqp:Code:=cO Tryz.f141
noncomputable def qqq:Array ResultVar:=Tryz.f141.results
theorem qjc (K:Ex→Fr→Option AV):∀ (n:Nat) (s0:List UInt8) (s24:List Int),evLP qea n (sub qqp [0,0]) K (frOf [(0,(.dat (.sl .byte) s0 none)),(1,(.padr 24 [.clo 142 false])),(24,(.pbox (.osl 21 (.int .i32)) s24 none))])=qau (fun s24=>K (.exit 0) (frOf [(24,(.pbox (.osl 21 (.int .i32)) s24 none))])) n s0 s24:=by
 intro n
 induction n with
 | zero=>intros; rfl
 | succ n IH =>
 intro s0 s24
 have ih:(fun s0 s24=>evLP qea n (sub qqp [0,0]) K (frOf [(0,(.dat (.sl .byte) s0 none)),(1,(.padr 24 [.clo 142 false])),(24,(.pbox (.osl 21 (.int .i32)) s24 none))]))=qau (fun s24=>K (.exit 0) (frOf [(24,(.pbox (.osl 21 (.int .i32)) s24 none))])) n:=by
  funext s0 s24
  exact IH s0 s24
 show _=qbC (fun s24=>K (.exit 0) (frOf [(24,(.pbox (.osl 21 (.int .i32)) s24 none))])) (qau (fun s24=>K (.exit 0) (frOf [(24,(.pbox (.osl 21 (.int .i32)) s24 none))])) n) n s0 s24
 rw [← ih]
 kernel_rfl
theorem qgx (s0:List UInt8) (f1:List Int) (n:Nat) (s24:List Int):(qc 0 (qea.cutb 0) (kFnM qea qqq [.dat (.sl .byte) s0 none,.fn 142 [.pbox (.osl 21 (.int .i32)) f1 none]])) (.exit 0) (frOf [(24,(.pbox (.osl 21 (.int .i32)) s24 none))])=qap n s24:=by
 kernel_rfl
theorem qqr (n:Nat) (s0:List UInt8) (o0:Lab) (f1:List Int):evFnM qea n qqp qqq [.dat (.sl .byte) s0 o0,.fn 142 [.pbox (.osl 21 (.int .i32)) f1 none]]=qgh n s0 f1:=by
 unfold qgh
 rw [show qau (qap n) n=(fun s0 s24=>evLP qea n (sub qqp [0,0]) (qc 0 (qea.cutb 0) (kFnM qea qqq [.dat (.sl .byte) s0 none,.fn 142 [.pbox (.osl 21 (.int .i32)) f1 none]])) (frOf [(0,(.dat (.sl .byte) s0 none)),(1,(.padr 24 [.clo 142 false])),(24,(.pbox (.osl 21 (.int .i32)) s24 none))])) from by
  funext s0 s24
  refine Eq.trans ?_ (qjc (qc 0 (qea.cutb 0) (kFnM qea qqq [.dat (.sl .byte) s0 none,.fn 142 [.pbox (.osl 21 (.int .i32)) f1 none]])) n s0 s24).symm
  rw [show (fun s24=>(qc 0 (qea.cutb 0) (kFnM qea qqq [.dat (.sl .byte) s0 none,.fn 142 [.pbox (.osl 21 (.int .i32)) f1 none]])) (.exit 0) (frOf [(24,(.pbox (.osl 21 (.int .i32)) s24 none))]))=(qap n) from by
   funext s24
   exact qgx s0 f1 n s24]
  all_goals kernel_rfl]
 kernel_rfl
theorem qqs:qpf G Tryz.prog 141 s_z141:=by
 refine qcK G_stays (E:=qea) (fn:=Tryz.f141) (c:=qqp) (qr rfl qeN) (fun w S hg=>⟨⟨(qb (qqo w S hg) qd),fun f sp h=>qbM f sp h w S⟩,qbY w S hg,(fun f sp h=>(qol (qqh w S hg) qwZ) f sp h),(fun _ _ h=>by cases h),(fun _ _ h=>by cases h),(fun _ _ _ h=>by cases h)⟩) follows Tryz.func141 (by kernel_rfl) (by kernel_rfl) (by kernel_rfl) ?_
 intro avs r h
 unfold s_z141 at h
 split at h
 ·simp only [Prod.mk.injEq] at h
  obtain ⟨hp,rfl⟩:=h
  obtain ⟨n,hn⟩:=qkJ _ _ hp
  exact ⟨n,(qqr n _ _ _).trans hn⟩
 ·cases h
noncomputable def E_z96:EnvP:=⟨⟨tiOf tis,fnsOf [],cnsOf [],[],8,(fun _=>none),(fun _=>none),some [2]⟩,(fun x=>if x=3 then some (.osl 21 (.int .i32)) else none),fun _=>none,fun _=>[],(fun x=>if x=141 then some s_z141 else none),fun _=>none,fun _=>none,fun _=>none⟩
noncomputable def C_z96:Code:=cO Tryz.f96
noncomputable def R_z96:Array ResultVar:=Tryz.f96.results
theorem qFe (n:Nat) (s0:List UInt8) (o0:Lab):evFnP E_z96 n C_z96 R_z96 [.dat (.sl .byte) s0 o0]=qzG n s0:=by
 kernel_rfl
theorem quR:qh G Tryz.prog 96 s_z96:=by
 refine qW G_stays (E:=E_z96) (fn:=Tryz.f96) (c:=C_z96) (qr rfl qeN) (fun w S hg=>⟨⟨qd,fun f sp h=>qbM f sp h w S⟩,qbY w S hg,(fun f sp h=>(qol (qqs w S hg) qwZ) f sp h),(fun f sp h=>qcv f sp h),(fun f it h=>qcx f it h),(fun t kt vt h=>qcw t kt vt h)⟩) follows Tryz.func96 (by kernel_rfl) (by kernel_rfl) (by kernel_rfl) ?_
 intro avs r h
 unfold s_z96 at h
 split at h
 ·simp only [Prod.mk.injEq] at h
  obtain ⟨hp,rfl⟩:=h
  obtain ⟨n,hn⟩:=qzm _ hp
  exact ⟨n,_,(qFe n _ _).trans hn,.inl rfl⟩
 ·cases h
noncomputable def E_z52:EnvP:=eQ [(93,s_z93),(94,s_z94),(95,s_z95),(96,s_z96),(97,s_z97)] 24 (some [1000004]) nC (fun x=>if x=0 then some [1] else none) nP
noncomputable def C_z52:Code:=cO Tryz.f52
noncomputable def R_z52:Array ResultVar:=Tryz.f52.results
theorem qFf (n:Nat) (charset0:Int) (o0:Lab) (s1:List UInt8) (o1:Lab):evFnP E_z52 n C_z52 R_z52 [.dat (.int .i64) charset0 o0,.dat (.sl .byte) s1 o1]=qzH n charset0 s1:=by
 kernel_rfl
theorem quS:qh G Tryz.prog 52 s_z52:=by
 refine sQ (E:=E_z52) (c:=C_z52) rfl (fun w S hg=>(qb (quM w S hg) (qb (quO w S hg) (qb (quQ w S hg) (qb (quR w S hg) (qb (qlY w S hg) qd)))))) Tryz.func52 (by kernel_rfl) (by kernel_rfl) (by kernel_rfl) ?_
 intro avs r h
 unfold s_z52 at h
 split at h
 ·simp only [Prod.mk.injEq] at h
  obtain ⟨hp,rfl⟩:=h
  obtain ⟨n,hn⟩:=qyQ _ _ hp
  exact ⟨n,_,(qFf n _ _ _ _).trans hn,.inl rfl⟩
 ·cases h
noncomputable def qy:EnvP:=⟨⟨tiOf tis,fnsOf [(133,s_z133)],cnsOf [],[],22,(fun x=>if x=3 then some [1,2] else if x=6 then some [1,2,11,12,13] else none),(fun x=>if x=0 then some [1] else if x=1 then some [1,2] else if x=2 then some [1,2] else if x=3 then some [1,2,11,12,13] else none),none⟩,fun _=>none,fun _=>none,fun _=>[],fun _=>none,fun _=>none,fun _=>none,(fun x=>if x=117 then some (9,3) else none)⟩
noncomputable def qaG:Code:=cO Tryz.f106
noncomputable def qqt:Array ResultVar:=Tryz.f106.results
theorem qqu (K:Ex→Fr→Option AV):∀ (n:Nat) (m1:List ((List UInt8)×Int)) (n2:Int) (s11:List (List UInt8)) (s12:Int) (s13:Int),evLP qy n (sub qaG [1,1,0,1,0,0,1,0,0,1,0,0]) K (frOf [(1,(.abs (.sl (.pair .str (.int .i64))) (qah .str (.int .i64)) m1)),(2,(.dat (.int .i64) n2 none)),(11,(.dat (.sl .str) s11 (some (11,9)))),(12,(.dat (.int .i64) s12 none)),(13,(.dat (.int .i64) s13 none))])=qgR (fun m1 n2=>K (.exit 2) (frOf [(1,(.abs (.sl (.pair .str (.int .i64))) (qah .str (.int .i64)) m1)),(2,(.dat (.int .i64) n2 none))])) n m1 n2 s11 s12 s13:=by
 intro n
 induction n with
 | zero=>intros; rfl
 | succ n IH =>
 intro m1 n2 s11 s12 s13
 have ih:(fun m1 n2 s11 s12 s13=>evLP qy n (sub qaG [1,1,0,1,0,0,1,0,0,1,0,0]) K (frOf [(1,(.abs (.sl (.pair .str (.int .i64))) (qah .str (.int .i64)) m1)),(2,(.dat (.int .i64) n2 none)),(11,(.dat (.sl .str) s11 (some (11,9)))),(12,(.dat (.int .i64) s12 none)),(13,(.dat (.int .i64) s13 none))]))=qgR (fun m1 n2=>K (.exit 2) (frOf [(1,(.abs (.sl (.pair .str (.int .i64))) (qah .str (.int .i64)) m1)),(2,(.dat (.int .i64) n2 none))])) n:=by
  funext m1 n2 s11 s12 s13
  exact IH m1 n2 s11 s12 s13
 show _=qmF (fun m1 n2=>K (.exit 2) (frOf [(1,(.abs (.sl (.pair .str (.int .i64))) (qah .str (.int .i64)) m1)),(2,(.dat (.int .i64) n2 none))])) (qgR (fun m1 n2=>K (.exit 2) (frOf [(1,(.abs (.sl (.pair .str (.int .i64))) (qah .str (.int .i64)) m1)),(2,(.dat (.int .i64) n2 none))])) n) n m1 n2 s11 s12 s13
 rw [← ih]
 kernel_rfl
theorem qku (K:Ex→Fr→Option AV) (n:Nat) (m1:List ((List UInt8)×Int)) (n2:Int):(qc 2 (qy.cutb 2) (qc 1 (qy.cutb 1) (kSeq (evCP qy (evLP qy n) (sub qaG [1,1,0,1,0,0,1,1])) (kSeq (fun K fr=>evLP qy n (sub qaG [1,1,0,1,0,0]) K (cutFP (qy.cuts 3) fr)) K)))) (.exit 2) (frOf [(1,(.abs (.sl (.pair .str (.int .i64))) (qah .str (.int .i64)) m1)),(2,(.dat (.int .i64) n2 none))])=qfg (fun m1=>K (.exit 0) (frOf [(1,(.abs (.sl (.pair .str (.int .i64))) (qah .str (.int .i64)) m1))])) (fun m1 n2=>evLP qy n (sub qaG [1,1,0,1,0,0]) K (frOf [(1,(.abs (.sl (.pair .str (.int .i64))) (qah .str (.int .i64)) m1)),(2,(.dat (.int .i64) n2 none))])) n m1 n2:=by
 kernel_rfl
theorem qqv (K:Ex→Fr→Option AV):∀ (n:Nat) (m1:List ((List UInt8)×Int)) (n2:Int),evLP qy n (sub qaG [1,1,0,1,0,0]) K (frOf [(1,(.abs (.sl (.pair .str (.int .i64))) (qah .str (.int .i64)) m1)),(2,(.dat (.int .i64) n2 none))])=qgS (fun m1=>K (.exit 0) (frOf [(1,(.abs (.sl (.pair .str (.int .i64))) (qah .str (.int .i64)) m1))])) n m1 n2:=by
 intro n
 induction n with
 | zero=>intros; rfl
 | succ n IH =>
 intro m1 n2
 have ih:(fun m1 n2=>evLP qy n (sub qaG [1,1,0,1,0,0]) K (frOf [(1,(.abs (.sl (.pair .str (.int .i64))) (qah .str (.int .i64)) m1)),(2,(.dat (.int .i64) n2 none))]))=qgS (fun m1=>K (.exit 0) (frOf [(1,(.abs (.sl (.pair .str (.int .i64))) (qah .str (.int .i64)) m1))])) n:=by
  funext m1 n2
  exact IH m1 n2
 show _=qih (fun m1=>K (.exit 0) (frOf [(1,(.abs (.sl (.pair .str (.int .i64))) (qah .str (.int .i64)) m1))])) (qgS (fun m1=>K (.exit 0) (frOf [(1,(.abs (.sl (.pair .str (.int .i64))) (qah .str (.int .i64)) m1))])) n) n m1 n2
 rw [← ih]
 unfold qih
 rw [show qgR (qfg (fun m1=>K (.exit 0) (frOf [(1,(.abs (.sl (.pair .str (.int .i64))) (qah .str (.int .i64)) m1))])) (fun m1 n2=>evLP qy n (sub qaG [1,1,0,1,0,0]) K (frOf [(1,(.abs (.sl (.pair .str (.int .i64))) (qah .str (.int .i64)) m1)),(2,(.dat (.int .i64) n2 none))])) n) n=(fun m1 n2 s11 s12 s13=>evLP qy n (sub qaG [1,1,0,1,0,0,1,0,0,1,0,0]) (qc 2 (qy.cutb 2) (qc 1 (qy.cutb 1) (kSeq (evCP qy (evLP qy n) (sub qaG [1,1,0,1,0,0,1,1])) (kSeq (fun K fr=>evLP qy n (sub qaG [1,1,0,1,0,0]) K (cutFP (qy.cuts 3) fr)) K)))) (frOf [(1,(.abs (.sl (.pair .str (.int .i64))) (qah .str (.int .i64)) m1)),(2,(.dat (.int .i64) n2 none)),(11,(.dat (.sl .str) s11 (some (11,9)))),(12,(.dat (.int .i64) s12 none)),(13,(.dat (.int .i64) s13 none))])) from by
  funext m1 n2 s11 s12 s13
  refine Eq.trans ?_ (qqu (qc 2 (qy.cutb 2) (qc 1 (qy.cutb 1) (kSeq (evCP qy (evLP qy n) (sub qaG [1,1,0,1,0,0,1,1])) (kSeq (fun K fr=>evLP qy n (sub qaG [1,1,0,1,0,0]) K (cutFP (qy.cuts 3) fr)) K)))) n m1 n2 s11 s12 s13).symm
  rw [show (fun m1 n2=>(qc 2 (qy.cutb 2) (qc 1 (qy.cutb 1) (kSeq (evCP qy (evLP qy n) (sub qaG [1,1,0,1,0,0,1,1])) (kSeq (fun K fr=>evLP qy n (sub qaG [1,1,0,1,0,0]) K (cutFP (qy.cuts 3) fr)) K)))) (.exit 2) (frOf [(1,(.abs (.sl (.pair .str (.int .i64))) (qah .str (.int .i64)) m1)),(2,(.dat (.int .i64) n2 none))]))=(qfg (fun m1=>K (.exit 0) (frOf [(1,(.abs (.sl (.pair .str (.int .i64))) (qah .str (.int .i64)) m1))])) (fun m1 n2=>evLP qy n (sub qaG [1,1,0,1,0,0]) K (frOf [(1,(.abs (.sl (.pair .str (.int .i64))) (qah .str (.int .i64)) m1)),(2,(.dat (.int .i64) n2 none))])) n) from by
   funext m1 n2
   exact qku K n m1 n2]
  all_goals kernel_rfl]
 kernel_rfl
theorem qkv (n:Nat) (m1:List ((List UInt8)×Int)):(qc 0 (qy.cutb 0) (kSeq (evCP qy (evLP qy n) (sub qaG [1,1,1])) (kFnR qqt))) (.exit 0) (frOf [(1,(.abs (.sl (.pair .str (.int .i64))) (qah .str (.int .i64)) m1))])=qfh n m1:=by
 kernel_rfl
theorem qCx (n:Nat)  : evFnR qy n qaG qqt []=qsC n  := by
 unfold qsC
 rw [show qgS (qfh n) n=(fun m1 n2=>evLP qy n (sub qaG [1,1,0,1,0,0]) (qc 0 (qy.cutb 0) (kSeq (evCP qy (evLP qy n) (sub qaG [1,1,1])) (kFnR qqt))) (frOf [(1,(.abs (.sl (.pair .str (.int .i64))) (qah .str (.int .i64)) m1)),(2,(.dat (.int .i64) n2 none))])) from by
  funext m1 n2
  refine Eq.trans ?_ (qqv (qc 0 (qy.cutb 0) (kSeq (evCP qy (evLP qy n) (sub qaG [1,1,1])) (kFnR qqt))) n m1 n2).symm
  rw [show (fun m1=>(qc 0 (qy.cutb 0) (kSeq (evCP qy (evLP qy n) (sub qaG [1,1,1])) (kFnR qqt))) (.exit 0) (frOf [(1,(.abs (.sl (.pair .str (.int .i64))) (qah .str (.int .i64)) m1))]))=(qfh n) from by
   funext m1
   exact qkv n m1]
  all_goals kernel_rfl]
 kernel_rfl
theorem qqw:qyk G Tryz.prog 106 s_z106:=by
 refine qfs G_stays (E:=qy) (fn:=Tryz.f106) (c:=qaG) (qr rfl qeN) (fun w S hg=>⟨⟨(qb (qiY w S hg) qd),fun f sp h=>qbM f sp h w S⟩,qbY w S hg,(fun _ _ h=>by cases h),(fun f sp h=>qcv f sp h),(fun f it h=>qcx f it h),(fun t kt vt h=>(qon (by kernel_rfl) qcw) t kt vt h)⟩) follows Tryz.func106 (by kernel_rfl) (by kernel_rfl) (by kernel_rfl) ?_
 intro avs r h
 unfold s_z106 at h
 split at h
 ·simp only [Prod.mk.injEq,true_and] at h
  subst h
  obtain ⟨n,hn⟩:=qvK
  exact ⟨n,(qCx n ).trans hn⟩
 ·cases h
end Go.Av
