import Derived.Test.YtopepdfipgfakaaGreatDoorEfEvD
import Derived.Test.YtopepdfipgfakaaGreatDoorEfLayX
import Derived.Test.YtopepdfipgfakaaGreatDoorProg
import Derived.KernelRfl
namespace Go.Av
set_option linter.unusedSimpArgs false
open Go.Proofs
set_option maxRecDepth 100000
set_option linter.unusedVariables false
noncomputable def qaW:EnvP:=eQ [(217,s_z217),(235,s_z235),(236,s_z236)] 45 (some [2]) (fun x=>if x=2 then some [0,3] else none) (fun x=>if x=0 then some [0,3] else if x=1 then some [0,3] else none) nP
noncomputable def qhC:Code:=cO Tryz.f216
noncomputable def qpB:Array ResultVar:=Tryz.f216.results
theorem qpC (K:Ex→Fr→Option AV):∀ (n:Nat) (s0:List UInt8) (n3:Int),evLP qaW n (sub qhC [1,1,0,0,0]) K (frOf [(0,(.dat (.sl .byte) s0 none)),(3,(.dat (.int .i64) n3 none))])=qeC (fun s2=>K .ret (frOf [(2,(.dat (.int .i64) s2 none))])) (fun s0 n3=>K (.exit 0) (frOf [(0,(.dat (.sl .byte) s0 none)),(3,(.dat (.int .i64) n3 none))])) n s0 n3:=by
 intro n
 induction n with
 | zero=>intros; rfl
 | succ n IH =>
 intro s0 n3
 have ih:(fun s0 n3=>evLP qaW n (sub qhC [1,1,0,0,0]) K (frOf [(0,(.dat (.sl .byte) s0 none)),(3,(.dat (.int .i64) n3 none))]))=qeC (fun s2=>K .ret (frOf [(2,(.dat (.int .i64) s2 none))])) (fun s0 n3=>K (.exit 0) (frOf [(0,(.dat (.sl .byte) s0 none)),(3,(.dat (.int .i64) n3 none))])) n:=by
  funext s0 n3
  exact IH s0 n3
 show _=qaR (fun s2=>K .ret (frOf [(2,(.dat (.int .i64) s2 none))])) (fun s0 n3=>K (.exit 0) (frOf [(0,(.dat (.sl .byte) s0 none)),(3,(.dat (.int .i64) n3 none))])) (qeC (fun s2=>K .ret (frOf [(2,(.dat (.int .i64) s2 none))])) (fun s0 n3=>K (.exit 0) (frOf [(0,(.dat (.sl .byte) s0 none)),(3,(.dat (.int .i64) n3 none))])) n) n s0 n3
 rw [← ih]
 kernel_rfl
theorem qjT (n:Nat) (s0:List UInt8) (n3:Int):(qc 0 (qaW.cutb 0) (kSeq (evCP qaW (evLP qaW n) (sub qhC [1,1,1])) (kFnP qaW qpB))) (.exit 0) (frOf [(0,(.dat (.sl .byte) s0 none)),(3,(.dat (.int .i64) n3 none))])=qT n s0 n3:=by
 kernel_rfl
theorem qBE (n:Nat) (s0:List UInt8) (o0:Lab):evFnP qaW n qhC qpB [.dat (.sl .byte) s0 o0]=qlX n s0:=by
 unfold qlX
 rw [show qeC qam (qT n) n=(fun s0 n3=>evLP qaW n (sub qhC [1,1,0,0,0]) (qc 0 (qaW.cutb 0) (kSeq (evCP qaW (evLP qaW n) (sub qhC [1,1,1])) (kFnP qaW qpB))) (frOf [(0,(.dat (.sl .byte) s0 none)),(3,(.dat (.int .i64) n3 none))])) from by
  funext s0 n3
  refine Eq.trans ?_ (qpC (qc 0 (qaW.cutb 0) (kSeq (evCP qaW (evLP qaW n) (sub qhC [1,1,1])) (kFnP qaW qpB))) n s0 n3).symm
  rw [show (fun s0 n3=>(qc 0 (qaW.cutb 0) (kSeq (evCP qaW (evLP qaW n) (sub qhC [1,1,1])) (kFnP qaW qpB))) (.exit 0) (frOf [(0,(.dat (.sl .byte) s0 none)),(3,(.dat (.int .i64) n3 none))]))=(qT n) from by
   funext s0 n3
   exact qjT n s0 n3]
  all_goals kernel_rfl]
 kernel_rfl
theorem qpD:qg G Tryz.prog 216 s_z216:=by
 refine sQ (E:=qaW) (c:=qhC) rfl (fun w S hg=>(qb (qiK w S hg) (qb (qiL w S hg) (qb (qpA w S hg) qd)))) Tryz.func216 (by kernel_rfl) (by kernel_rfl) (by kernel_rfl) ?_
 intro avs r h
 unfold s_z216 at h
 split at h
 ·simp only [Prod.mk.injEq] at h
  obtain ⟨hp,rfl⟩:=h
  obtain ⟨n,hn⟩:=quV _ hp
  exact ⟨n,_,(qBE n _ _).trans hn,.inl rfl⟩
 ·cases h
noncomputable def qBF:EnvP:=eQ [] 10 (some [2]) nC (fun x=>if x=0 then some [] else none) nP
noncomputable def qBG:Code:=cO Tryz.f218
noncomputable def qEq:Array ResultVar:=Tryz.f218.results
theorem qBH (n:Nat) (n0:Int) (o0:Lab):evFnP qBF n qBG qEq [.dat (.int .i64) n0 o0]=qrG n n0:=by
 kernel_rfl
theorem qpE:qg G Tryz.prog 218 s_z218:=by
 refine sQ (E:=qBF) (c:=qBG) rfl (fun w S hg=>qd) Tryz.func218 (by kernel_rfl) (by kernel_rfl) (by kernel_rfl) ?_
 intro avs r h
 unfold s_z218 at h
 split at h
 ·simp only [Prod.mk.injEq,true_and] at h
  subst h
  obtain ⟨n,hn⟩:=qvP _
  exact ⟨n,_,(qBH n _ _).trans hn,.inl rfl⟩
 ·cases h
noncomputable def qaX:EnvP:=eQ [(216,s_z216),(217,s_z217),(218,s_z218)] 63 (some [2,3,4]) (fun x=>if x=12 then some [5,6,48,49,50] else none) (fun x=>if x=0 then some [0,5] else if x=1 then some [5,6] else if x=2 then some [5,6,48,49,50] else none) nP
noncomputable def qhD:Code:=cO Tryz.f187
noncomputable def qpF:Array ResultVar:=Tryz.f187.results
theorem qnd (K:Ex→Fr→Option AV):∀ (n:Nat) (n5:Int) (c6:Int) (s48:List UInt8) (s49:Int) (s50:Int),evLP qaX n (sub qhD [1,1,1,1,1,0,1,0,0]) K (frOf [(5,(.dat (.int .i64) n5 none)),(6,(.dat (.int .i32) c6 none)),(48,(.dat (.sl .byte) s48 none)),(49,(.dat (.int .i64) s49 none)),(50,(.dat (.int .i64) s50 none))])=qbZ (fun n5 c6=>K (.exit 1) (frOf [(5,(.dat (.int .i64) n5 none)),(6,(.dat (.int .i32) c6 none))])) n n5 c6 s48 s49 s50:=by
 intro n
 induction n with
 | zero=>intros; rfl
 | succ n IH =>
 intro n5 c6 s48 s49 s50
 have ih:(fun n5 c6 s48 s49 s50=>evLP qaX n (sub qhD [1,1,1,1,1,0,1,0,0]) K (frOf [(5,(.dat (.int .i64) n5 none)),(6,(.dat (.int .i32) c6 none)),(48,(.dat (.sl .byte) s48 none)),(49,(.dat (.int .i64) s49 none)),(50,(.dat (.int .i64) s50 none))]))=qbZ (fun n5 c6=>K (.exit 1) (frOf [(5,(.dat (.int .i64) n5 none)),(6,(.dat (.int .i32) c6 none))])) n:=by
  funext n5 c6 s48 s49 s50
  exact IH n5 c6 s48 s49 s50
 show _=qbn (fun n5 c6=>K (.exit 1) (frOf [(5,(.dat (.int .i64) n5 none)),(6,(.dat (.int .i32) c6 none))])) (qbZ (fun n5 c6=>K (.exit 1) (frOf [(5,(.dat (.int .i64) n5 none)),(6,(.dat (.int .i32) c6 none))])) n) n n5 c6 s48 s49 s50
 rw [← ih]
 kernel_rfl
theorem qiM (n:Nat) (n5:Int) (c6:Int):(qc 1 (qaX.cutb 1) (kSeq (evCP qaX (evLP qaX n) (sub qhD [1,1,1,1,1,1])) (kFnP qaX qpF))) (.exit 1) (frOf [(5,(.dat (.int .i64) n5 none)),(6,(.dat (.int .i32) c6 none))])=qbo n n5 c6:=by
 kernel_rfl
theorem qBI (n:Nat) (s0:List UInt8) (o0:Lab):evFnP qaX n qhD qpF [.dat (.sl .byte) s0 o0]=qlY n s0:=by
 unfold qlY
 rw [show qbZ (qbo n) n=(fun n5 c6 s48 s49 s50=>evLP qaX n (sub qhD [1,1,1,1,1,0,1,0,0]) (qc 1 (qaX.cutb 1) (kSeq (evCP qaX (evLP qaX n) (sub qhD [1,1,1,1,1,1])) (kFnP qaX qpF))) (frOf [(5,(.dat (.int .i64) n5 none)),(6,(.dat (.int .i32) c6 none)),(48,(.dat (.sl .byte) s48 none)),(49,(.dat (.int .i64) s49 none)),(50,(.dat (.int .i64) s50 none))])) from by
  funext n5 c6 s48 s49 s50
  refine Eq.trans ?_ (qnd (qc 1 (qaX.cutb 1) (kSeq (evCP qaX (evLP qaX n) (sub qhD [1,1,1,1,1,1])) (kFnP qaX qpF))) n n5 c6 s48 s49 s50).symm
  rw [show (fun n5 c6=>(qc 1 (qaX.cutb 1) (kSeq (evCP qaX (evLP qaX n) (sub qhD [1,1,1,1,1,1])) (kFnP qaX qpF))) (.exit 1) (frOf [(5,(.dat (.int .i64) n5 none)),(6,(.dat (.int .i32) c6 none))]))=(qbo n) from by
   funext n5 c6
   exact qiM n n5 c6]
  all_goals kernel_rfl]
 kernel_rfl
theorem qpG:qg G Tryz.prog 187 s_z187:=by
 refine sQ (E:=qaX) (c:=qhD) rfl (fun w S hg=>(qb (qpD w S hg) (qb (qiK w S hg) (qb (qpE w S hg) qd)))) Tryz.func187 (by kernel_rfl) (by kernel_rfl) (by kernel_rfl) ?_
 intro avs r h
 unfold s_z187 at h
 split at h
 ·simp only [Prod.mk.injEq] at h
  obtain ⟨hp,rfl⟩:=h
  obtain ⟨n,hn⟩:=quW _ hp
  exact ⟨n,_,(qBI n _ _).trans hn,.inl rfl⟩
 ·cases h
noncomputable def qeb:EnvP:=⟨⟨tiOf tis,fnsOf [(187,s_z187)],cnsOf [],[],23,(fun x=>if x=0 then some [0,1,24] else none),(fun x=>if x=0 then some [24] else if x=1 then some [0,1,24] else none),some [24]⟩,fun _=>none,fun _=>none,fun _=>[],(fun x=>if x=142 then some s_z142 else none),fun _=>none,fun _=>none,fun _=>none⟩
noncomputable def qpH:Code:=cO Tryz.f141
noncomputable def qpI:Array ResultVar:=Tryz.f141.results
theorem qiN (K:Ex→Fr→Option AV):∀ (n:Nat) (s0:List UInt8) (s24:List Int),evLP qeb n (sub qpH [0,0]) K (frOf [(0,(.dat (.sl .byte) s0 none)),(1,(.padr 24 [.clo 142 false])),(24,(.pbox (.osl 21 (.int .i32)) s24 none))])=qas (fun s24=>K (.exit 0) (frOf [(24,(.pbox (.osl 21 (.int .i32)) s24 none))])) n s0 s24:=by
 intro n
 induction n with
 | zero=>intros; rfl
 | succ n IH =>
 intro s0 s24
 have ih:(fun s0 s24=>evLP qeb n (sub qpH [0,0]) K (frOf [(0,(.dat (.sl .byte) s0 none)),(1,(.padr 24 [.clo 142 false])),(24,(.pbox (.osl 21 (.int .i32)) s24 none))]))=qas (fun s24=>K (.exit 0) (frOf [(24,(.pbox (.osl 21 (.int .i32)) s24 none))])) n:=by
  funext s0 s24
  exact IH s0 s24
 show _=qbx (fun s24=>K (.exit 0) (frOf [(24,(.pbox (.osl 21 (.int .i32)) s24 none))])) (qas (fun s24=>K (.exit 0) (frOf [(24,(.pbox (.osl 21 (.int .i32)) s24 none))])) n) n s0 s24
 rw [← ih]
 kernel_rfl
theorem qgr (s0:List UInt8) (f1:List Int) (n:Nat) (s24:List Int):(qc 0 (qeb.cutb 0) (kFnM qeb qpI [.dat (.sl .byte) s0 none,.fn 142 [.pbox (.osl 21 (.int .i32)) f1 none]])) (.exit 0) (frOf [(24,(.pbox (.osl 21 (.int .i32)) s24 none))])=qao n s24:=by
 kernel_rfl
theorem qpJ (n:Nat) (s0:List UInt8) (o0:Lab) (f1:List Int):evFnM qeb n qpH qpI [.dat (.sl .byte) s0 o0,.fn 142 [.pbox (.osl 21 (.int .i32)) f1 none]]=qfZ n s0 f1:=by
 unfold qfZ
 rw [show qas (qao n) n=(fun s0 s24=>evLP qeb n (sub qpH [0,0]) (qc 0 (qeb.cutb 0) (kFnM qeb qpI [.dat (.sl .byte) s0 none,.fn 142 [.pbox (.osl 21 (.int .i32)) f1 none]])) (frOf [(0,(.dat (.sl .byte) s0 none)),(1,(.padr 24 [.clo 142 false])),(24,(.pbox (.osl 21 (.int .i32)) s24 none))])) from by
  funext s0 s24
  refine Eq.trans ?_ (qiN (qc 0 (qeb.cutb 0) (kFnM qeb qpI [.dat (.sl .byte) s0 none,.fn 142 [.pbox (.osl 21 (.int .i32)) f1 none]])) n s0 s24).symm
  rw [show (fun s24=>(qc 0 (qeb.cutb 0) (kFnM qeb qpI [.dat (.sl .byte) s0 none,.fn 142 [.pbox (.osl 21 (.int .i32)) f1 none]])) (.exit 0) (frOf [(24,(.pbox (.osl 21 (.int .i32)) s24 none))]))=(qao n) from by
   funext s24
   exact qgr s0 f1 n s24]
  all_goals kernel_rfl]
 kernel_rfl
theorem qpK:qoB G Tryz.prog 141 s_z141:=by
 refine qcF G_stays (E:=qeb) (fn:=Tryz.f141) (c:=qpH) (qp rfl qea) (fun w S hg=>⟨⟨(qb (qpG w S hg) qd),fun f sp h=>qbB f sp h w S⟩,qbH w S hg,(fun f sp h=>(qnH (qpz w S hg) qwd) f sp h),(fun _ _ h=>by cases h),(fun _ _ h=>by cases h),(fun _ _ _ h=>by cases h)⟩) follows Tryz.func141 (by kernel_rfl) (by kernel_rfl) (by kernel_rfl) ?_
 intro avs r h
 unfold s_z141 at h
 split at h
 ·simp only [Prod.mk.injEq] at h
  obtain ⟨hp,rfl⟩:=h
  obtain ⟨n,hn⟩:=qkm _ _ hp
  exact ⟨n,(qpJ n _ _ _).trans hn⟩
 ·cases h
noncomputable def E_z96:EnvP:=⟨⟨tiOf tis,fnsOf [],cnsOf [],[],8,(fun _=>none),(fun _=>none),some [2]⟩,(fun x=>if x=3 then some (.osl 21 (.int .i32)) else none),fun _=>none,fun _=>[],(fun x=>if x=141 then some s_z141 else none),fun _=>none,fun _=>none,fun _=>none⟩
noncomputable def C_z96:Code:=cO Tryz.f96
noncomputable def R_z96:Array ResultVar:=Tryz.f96.results
theorem qEr (n:Nat) (s0:List UInt8) (o0:Lab):evFnP E_z96 n C_z96 R_z96 [.dat (.sl .byte) s0 o0]=qyI n s0:=by
 kernel_rfl
theorem qtX:qg G Tryz.prog 96 s_z96:=by
 refine qO G_stays (E:=E_z96) (fn:=Tryz.f96) (c:=C_z96) (qp rfl qea) (fun w S hg=>⟨⟨qd,fun f sp h=>qbB f sp h w S⟩,qbH w S hg,(fun f sp h=>(qnH (qpK w S hg) qwd) f sp h),(fun f sp h=>qcs f sp h),(fun f it h=>qct f it h),(fun t kt vt h=>qbL t kt vt h)⟩) follows Tryz.func96 (by kernel_rfl) (by kernel_rfl) (by kernel_rfl) ?_
 intro avs r h
 unfold s_z96 at h
 split at h
 ·simp only [Prod.mk.injEq] at h
  obtain ⟨hp,rfl⟩:=h
  obtain ⟨n,hn⟩:=qyr _ hp
  exact ⟨n,_,(qEr n _ _).trans hn,.inl rfl⟩
 ·cases h
noncomputable def E_z52:EnvP:=eQ [(93,s_z93),(94,s_z94),(95,s_z95),(96,s_z96),(97,s_z97)] 24 (some [1000004]) nC (fun x=>if x=0 then some [1] else none) nP
noncomputable def C_z52:Code:=cO Tryz.f52
noncomputable def R_z52:Array ResultVar:=Tryz.f52.results
theorem qEs (n:Nat) (charset0:Int) (o0:Lab) (s1:List UInt8) (o1:Lab):evFnP E_z52 n C_z52 R_z52 [.dat (.int .i64) charset0 o0,.dat (.sl .byte) s1 o1]=qyJ n charset0 s1:=by
 kernel_rfl
theorem qtY:qg G Tryz.prog 52 s_z52:=by
 refine sQ (E:=E_z52) (c:=C_z52) rfl (fun w S hg=>(qb (qtS w S hg) (qb (qtU w S hg) (qb (qtW w S hg) (qb (qtX w S hg) (qb (qlE w S hg) qd)))))) Tryz.func52 (by kernel_rfl) (by kernel_rfl) (by kernel_rfl) ?_
 intro avs r h
 unfold s_z52 at h
 split at h
 ·simp only [Prod.mk.injEq] at h
  obtain ⟨hp,rfl⟩:=h
  obtain ⟨n,hn⟩:=qya _ _ hp
  exact ⟨n,_,(qEs n _ _ _ _).trans hn,.inl rfl⟩
 ·cases h
noncomputable def qy:EnvP:=⟨⟨tiOf tis,fnsOf [(133,s_z133)],cnsOf [],[],22,(fun x=>if x=3 then some [1,2] else if x=6 then some [1,2,11,12,13] else none),(fun x=>if x=0 then some [1] else if x=1 then some [1,2] else if x=2 then some [1,2] else if x=3 then some [1,2,11,12,13] else none),none⟩,fun _=>none,fun _=>none,fun _=>[],fun _=>none,fun _=>none,fun _=>none,(fun x=>if x=117 then some (9,3) else none)⟩
noncomputable def qaE:Code:=cO Tryz.f106
noncomputable def qpL:Array ResultVar:=Tryz.f106.results
theorem qpM (K:Ex→Fr→Option AV):∀ (n:Nat) (m1:List ((List UInt8)×Int)) (n2:Int) (s11:List (List UInt8)) (s12:Int) (s13:Int),evLP qy n (sub qaE [1,1,0,1,0,0,1,0,0,1,0,0]) K (frOf [(1,(.abs (.sl (.pair .str (.int .i64))) (qae .str (.int .i64)) m1)),(2,(.dat (.int .i64) n2 none)),(11,(.dat (.sl .str) s11 (some (11,9)))),(12,(.dat (.int .i64) s12 none)),(13,(.dat (.int .i64) s13 none))])=qgH (fun m1 n2=>K (.exit 2) (frOf [(1,(.abs (.sl (.pair .str (.int .i64))) (qae .str (.int .i64)) m1)),(2,(.dat (.int .i64) n2 none))])) n m1 n2 s11 s12 s13:=by
 intro n
 induction n with
 | zero=>intros; rfl
 | succ n IH =>
 intro m1 n2 s11 s12 s13
 have ih:(fun m1 n2 s11 s12 s13=>evLP qy n (sub qaE [1,1,0,1,0,0,1,0,0,1,0,0]) K (frOf [(1,(.abs (.sl (.pair .str (.int .i64))) (qae .str (.int .i64)) m1)),(2,(.dat (.int .i64) n2 none)),(11,(.dat (.sl .str) s11 (some (11,9)))),(12,(.dat (.int .i64) s12 none)),(13,(.dat (.int .i64) s13 none))]))=qgH (fun m1 n2=>K (.exit 2) (frOf [(1,(.abs (.sl (.pair .str (.int .i64))) (qae .str (.int .i64)) m1)),(2,(.dat (.int .i64) n2 none))])) n:=by
  funext m1 n2 s11 s12 s13
  exact IH m1 n2 s11 s12 s13
 show _=qlZ (fun m1 n2=>K (.exit 2) (frOf [(1,(.abs (.sl (.pair .str (.int .i64))) (qae .str (.int .i64)) m1)),(2,(.dat (.int .i64) n2 none))])) (qgH (fun m1 n2=>K (.exit 2) (frOf [(1,(.abs (.sl (.pair .str (.int .i64))) (qae .str (.int .i64)) m1)),(2,(.dat (.int .i64) n2 none))])) n) n m1 n2 s11 s12 s13
 rw [← ih]
 kernel_rfl
theorem qjU (K:Ex→Fr→Option AV) (n:Nat) (m1:List ((List UInt8)×Int)) (n2:Int):(qc 2 (qy.cutb 2) (qc 1 (qy.cutb 1) (kSeq (evCP qy (evLP qy n) (sub qaE [1,1,0,1,0,0,1,1])) (kSeq (fun K fr=>evLP qy n (sub qaE [1,1,0,1,0,0]) K (cutFP (qy.cuts 3) fr)) K)))) (.exit 2) (frOf [(1,(.abs (.sl (.pair .str (.int .i64))) (qae .str (.int .i64)) m1)),(2,(.dat (.int .i64) n2 none))])=qfb (fun m1=>K (.exit 0) (frOf [(1,(.abs (.sl (.pair .str (.int .i64))) (qae .str (.int .i64)) m1))])) (fun m1 n2=>evLP qy n (sub qaE [1,1,0,1,0,0]) K (frOf [(1,(.abs (.sl (.pair .str (.int .i64))) (qae .str (.int .i64)) m1)),(2,(.dat (.int .i64) n2 none))])) n m1 n2:=by
 kernel_rfl
theorem qpN (K:Ex→Fr→Option AV):∀ (n:Nat) (m1:List ((List UInt8)×Int)) (n2:Int),evLP qy n (sub qaE [1,1,0,1,0,0]) K (frOf [(1,(.abs (.sl (.pair .str (.int .i64))) (qae .str (.int .i64)) m1)),(2,(.dat (.int .i64) n2 none))])=qgI (fun m1=>K (.exit 0) (frOf [(1,(.abs (.sl (.pair .str (.int .i64))) (qae .str (.int .i64)) m1))])) n m1 n2:=by
 intro n
 induction n with
 | zero=>intros; rfl
 | succ n IH =>
 intro m1 n2
 have ih:(fun m1 n2=>evLP qy n (sub qaE [1,1,0,1,0,0]) K (frOf [(1,(.abs (.sl (.pair .str (.int .i64))) (qae .str (.int .i64)) m1)),(2,(.dat (.int .i64) n2 none))]))=qgI (fun m1=>K (.exit 0) (frOf [(1,(.abs (.sl (.pair .str (.int .i64))) (qae .str (.int .i64)) m1))])) n:=by
  funext m1 n2
  exact IH m1 n2
 show _=qhS (fun m1=>K (.exit 0) (frOf [(1,(.abs (.sl (.pair .str (.int .i64))) (qae .str (.int .i64)) m1))])) (qgI (fun m1=>K (.exit 0) (frOf [(1,(.abs (.sl (.pair .str (.int .i64))) (qae .str (.int .i64)) m1))])) n) n m1 n2
 rw [← ih]
 unfold qhS
 rw [show qgH (qfb (fun m1=>K (.exit 0) (frOf [(1,(.abs (.sl (.pair .str (.int .i64))) (qae .str (.int .i64)) m1))])) (fun m1 n2=>evLP qy n (sub qaE [1,1,0,1,0,0]) K (frOf [(1,(.abs (.sl (.pair .str (.int .i64))) (qae .str (.int .i64)) m1)),(2,(.dat (.int .i64) n2 none))])) n) n=(fun m1 n2 s11 s12 s13=>evLP qy n (sub qaE [1,1,0,1,0,0,1,0,0,1,0,0]) (qc 2 (qy.cutb 2) (qc 1 (qy.cutb 1) (kSeq (evCP qy (evLP qy n) (sub qaE [1,1,0,1,0,0,1,1])) (kSeq (fun K fr=>evLP qy n (sub qaE [1,1,0,1,0,0]) K (cutFP (qy.cuts 3) fr)) K)))) (frOf [(1,(.abs (.sl (.pair .str (.int .i64))) (qae .str (.int .i64)) m1)),(2,(.dat (.int .i64) n2 none)),(11,(.dat (.sl .str) s11 (some (11,9)))),(12,(.dat (.int .i64) s12 none)),(13,(.dat (.int .i64) s13 none))])) from by
  funext m1 n2 s11 s12 s13
  refine Eq.trans ?_ (qpM (qc 2 (qy.cutb 2) (qc 1 (qy.cutb 1) (kSeq (evCP qy (evLP qy n) (sub qaE [1,1,0,1,0,0,1,1])) (kSeq (fun K fr=>evLP qy n (sub qaE [1,1,0,1,0,0]) K (cutFP (qy.cuts 3) fr)) K)))) n m1 n2 s11 s12 s13).symm
  rw [show (fun m1 n2=>(qc 2 (qy.cutb 2) (qc 1 (qy.cutb 1) (kSeq (evCP qy (evLP qy n) (sub qaE [1,1,0,1,0,0,1,1])) (kSeq (fun K fr=>evLP qy n (sub qaE [1,1,0,1,0,0]) K (cutFP (qy.cuts 3) fr)) K)))) (.exit 2) (frOf [(1,(.abs (.sl (.pair .str (.int .i64))) (qae .str (.int .i64)) m1)),(2,(.dat (.int .i64) n2 none))]))=(qfb (fun m1=>K (.exit 0) (frOf [(1,(.abs (.sl (.pair .str (.int .i64))) (qae .str (.int .i64)) m1))])) (fun m1 n2=>evLP qy n (sub qaE [1,1,0,1,0,0]) K (frOf [(1,(.abs (.sl (.pair .str (.int .i64))) (qae .str (.int .i64)) m1)),(2,(.dat (.int .i64) n2 none))])) n) from by
   funext m1 n2
   exact qjU K n m1 n2]
  all_goals kernel_rfl]
 kernel_rfl
theorem qjV (n:Nat) (m1:List ((List UInt8)×Int)):(qc 0 (qy.cutb 0) (kSeq (evCP qy (evLP qy n) (sub qaE [1,1,1])) (kFnR qpL))) (.exit 0) (frOf [(1,(.abs (.sl (.pair .str (.int .i64))) (qae .str (.int .i64)) m1))])=qfc n m1:=by
 kernel_rfl
theorem qBJ (n:Nat)  : evFnR qy n qaE qpL []=qrI n  := by
 unfold qrI
 rw [show qgI (qfc n) n=(fun m1 n2=>evLP qy n (sub qaE [1,1,0,1,0,0]) (qc 0 (qy.cutb 0) (kSeq (evCP qy (evLP qy n) (sub qaE [1,1,1])) (kFnR qpL))) (frOf [(1,(.abs (.sl (.pair .str (.int .i64))) (qae .str (.int .i64)) m1)),(2,(.dat (.int .i64) n2 none))])) from by
  funext m1 n2
  refine Eq.trans ?_ (qpN (qc 0 (qy.cutb 0) (kSeq (evCP qy (evLP qy n) (sub qaE [1,1,1])) (kFnR qpL))) n m1 n2).symm
  rw [show (fun m1=>(qc 0 (qy.cutb 0) (kSeq (evCP qy (evLP qy n) (sub qaE [1,1,1])) (kFnR qpL))) (.exit 0) (frOf [(1,(.abs (.sl (.pair .str (.int .i64))) (qae .str (.int .i64)) m1))]))=(qfc n) from by
   funext m1
   exact qjV n m1]
  all_goals kernel_rfl]
 kernel_rfl
theorem qpO:qxr G Tryz.prog 106 s_z106:=by
 refine qfn G_stays (E:=qy) (fn:=Tryz.f106) (c:=qaE) (qp rfl qea) (fun w S hg=>⟨⟨(qb (qiJ w S hg) qd),fun f sp h=>qbB f sp h w S⟩,qbH w S hg,(fun _ _ h=>by cases h),(fun f sp h=>qcs f sp h),(fun f it h=>qct f it h),(fun t kt vt h=>(qnJ (by kernel_rfl) qbL) t kt vt h)⟩) follows Tryz.func106 (by kernel_rfl) (by kernel_rfl) (by kernel_rfl) ?_
 intro avs r h
 unfold s_z106 at h
 split at h
 ·simp only [Prod.mk.injEq,true_and] at h
  subst h
  obtain ⟨n,hn⟩:=quM
  exact ⟨n,(qBJ n ).trans hn⟩
 ·cases h
noncomputable def qaY:EnvP:=eQ [] 21 (some [1000004]) (fun x=>if x=1 then some [0,1] else none) (fun x=>if x=0 then some [0] else if x=1 then some [0,1] else none) nP
noncomputable def qhE:Code:=cO Tryz.f221
noncomputable def qpP:Array ResultVar:=Tryz.f221.results
theorem qpQ (K:Ex→Fr→Option AV):∀ (n:Nat) (s0:List UInt8) (c1:UInt8),evLP qaY n (sub qhE [1,0,0,0]) K (frOf [(0,(.dat (.sl .byte) s0 none)),(1,(.dat .byte c1 none))])=qgJ (fun s0=>K (.exit 0) (frOf [(0,(.dat (.sl .byte) s0 none))])) n s0 c1:=by
 intro n
 induction n with
 | zero=>intros; rfl
 | succ n IH =>
 intro s0 c1
 have ih:(fun s0 c1=>evLP qaY n (sub qhE [1,0,0,0]) K (frOf [(0,(.dat (.sl .byte) s0 none)),(1,(.dat .byte c1 none))]))=qgJ (fun s0=>K (.exit 0) (frOf [(0,(.dat (.sl .byte) s0 none))])) n:=by
  funext s0 c1
  exact IH s0 c1
 show _=qma (fun s0=>K (.exit 0) (frOf [(0,(.dat (.sl .byte) s0 none))])) (qgJ (fun s0=>K (.exit 0) (frOf [(0,(.dat (.sl .byte) s0 none))])) n) n s0 c1
 rw [← ih]
 kernel_rfl
theorem qjW (n:Nat) (s0:List UInt8):(qc 0 (qaY.cutb 0) (kSeq (evCP qaY (evLP qaY n) (sub qhE [1,1])) (kFnP qaY qpP))) (.exit 0) (frOf [(0,(.dat (.sl .byte) s0 none))])=qfd n s0:=by
 kernel_rfl
theorem qBK (n:Nat) (s0:List UInt8) (o0:Lab) (c1:UInt8) (o1:Lab):evFnP qaY n qhE qpP [.dat (.sl .byte) s0 o0,.dat .byte c1 o1]=qrJ n s0 c1:=by
 unfold qrJ
 rw [show qgJ (qfd n) n=(fun s0 c1=>evLP qaY n (sub qhE [1,0,0,0]) (qc 0 (qaY.cutb 0) (kSeq (evCP qaY (evLP qaY n) (sub qhE [1,1])) (kFnP qaY qpP))) (frOf [(0,(.dat (.sl .byte) s0 none)),(1,(.dat .byte c1 none))])) from by
  funext s0 c1
  refine Eq.trans ?_ (qpQ (qc 0 (qaY.cutb 0) (kSeq (evCP qaY (evLP qaY n) (sub qhE [1,1])) (kFnP qaY qpP))) n s0 c1).symm
  rw [show (fun s0=>(qc 0 (qaY.cutb 0) (kSeq (evCP qaY (evLP qaY n) (sub qhE [1,1])) (kFnP qaY qpP))) (.exit 0) (frOf [(0,(.dat (.sl .byte) s0 none))]))=(qfd n) from by
   funext s0
   exact qjW n s0]
  all_goals kernel_rfl]
 kernel_rfl
theorem qpR:qg G Tryz.prog 221 s_z221:=by
 refine sQ (E:=qaY) (c:=qhE) rfl (fun w S hg=>qd) Tryz.func221 (by kernel_rfl) (by kernel_rfl) (by kernel_rfl) ?_
 intro avs r h
 unfold s_z221 at h
 split at h
 ·simp only [Prod.mk.injEq] at h
  obtain ⟨hp,rfl⟩:=h
  obtain ⟨n,hn⟩:=qvv _ _ hp
  exact ⟨n,_,(qBK n _ _ _ _).trans hn,.inl rfl⟩
 ·cases h
noncomputable def qaZ:EnvP:=eQ [] 24 (some [4]) (fun x=>if x=1 then some [0,1] else none) (fun x=>if x=0 then some [0] else if x=1 then some [0,1] else none) nP
noncomputable def qhF:Code:=cO Tryz.f222
noncomputable def qpS:Array ResultVar:=Tryz.f222.results
theorem qpT (K:Ex→Fr→Option AV):∀ (n:Nat) (s0:List UInt8) (c1:UInt8),evLP qaZ n (sub qhF [1,0,0,0]) K (frOf [(0,(.dat (.sl .byte) s0 none)),(1,(.dat .byte c1 none))])=qgK (fun s0=>K (.exit 0) (frOf [(0,(.dat (.sl .byte) s0 none))])) n s0 c1:=by
 intro n
 induction n with
 | zero=>intros; rfl
 | succ n IH =>
 intro s0 c1
 have ih:(fun s0 c1=>evLP qaZ n (sub qhF [1,0,0,0]) K (frOf [(0,(.dat (.sl .byte) s0 none)),(1,(.dat .byte c1 none))]))=qgK (fun s0=>K (.exit 0) (frOf [(0,(.dat (.sl .byte) s0 none))])) n:=by
  funext s0 c1
  exact IH s0 c1
 show _=qmb (fun s0=>K (.exit 0) (frOf [(0,(.dat (.sl .byte) s0 none))])) (qgK (fun s0=>K (.exit 0) (frOf [(0,(.dat (.sl .byte) s0 none))])) n) n s0 c1
 rw [← ih]
 kernel_rfl
theorem qjX (n:Nat) (s0:List UInt8):(qc 0 (qaZ.cutb 0) (kSeq (evCP qaZ (evLP qaZ n) (sub qhF [1,1])) (kFnP qaZ qpS))) (.exit 0) (frOf [(0,(.dat (.sl .byte) s0 none))])=qfe n s0:=by
 kernel_rfl
theorem qBL (n:Nat) (s0:List UInt8) (o0:Lab) (c1:UInt8) (o1:Lab):evFnP qaZ n qhF qpS [.dat (.sl .byte) s0 o0,.dat .byte c1 o1]=qrL n s0 c1:=by
 unfold qrL
 rw [show qgK (qfe n) n=(fun s0 c1=>evLP qaZ n (sub qhF [1,0,0,0]) (qc 0 (qaZ.cutb 0) (kSeq (evCP qaZ (evLP qaZ n) (sub qhF [1,1])) (kFnP qaZ qpS))) (frOf [(0,(.dat (.sl .byte) s0 none)),(1,(.dat .byte c1 none))])) from by
  funext s0 c1
  refine Eq.trans ?_ (qpT (qc 0 (qaZ.cutb 0) (kSeq (evCP qaZ (evLP qaZ n) (sub qhF [1,1])) (kFnP qaZ qpS))) n s0 c1).symm
  rw [show (fun s0=>(qc 0 (qaZ.cutb 0) (kSeq (evCP qaZ (evLP qaZ n) (sub qhF [1,1])) (kFnP qaZ qpS))) (.exit 0) (frOf [(0,(.dat (.sl .byte) s0 none))]))=(qfe n) from by
   funext s0
   exact qjX n s0]
  all_goals kernel_rfl]
 kernel_rfl
theorem qpU:qg G Tryz.prog 222 s_z222:=by
 refine sQ (E:=qaZ) (c:=qhF) rfl (fun w S hg=>qd) Tryz.func222 (by kernel_rfl) (by kernel_rfl) (by kernel_rfl) ?_
 intro avs r h
 unfold s_z222 at h
 split at h
 ·simp only [Prod.mk.injEq] at h
  obtain ⟨hp,rfl⟩:=h
  obtain ⟨n,hn⟩:=qvw _ _ hp
  exact ⟨n,_,(qBL n _ _ _ _).trans hn,.inl rfl⟩
 ·cases h
end Go.Av
