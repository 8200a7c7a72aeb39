import Derived.Test.YtopepdfipgfakaaGreatDoorEfEvD
import Derived.Test.YtopepdfipgfakaaGreatDoorEfLayX
import Derived.Test.YtopepdfipgfakaaGreatDoorProg
import Derived.KernelRfl
namespace Go.Av
set_option linter.unusedSimpArgs false
noncomputable section
open Go.Proofs
set_option maxRecDepth 100000
set_option linter.unusedVariables false
def qzO:EnvP:=eQ [] 11 (some [13]) nC nC (fun x=>if x=7 then some (.osl 21 (.int .i32)) else if x=10 then some (.osl 21 (.int .i32)) else none)
def qzP:Code:=cO Tryz.f142
def qCy:Array ResultVar:=Tryz.f142.results
theorem qzQ (n:Nat) (c0:Int) (o0:Lab) (e1:Int) (o1:Lab) (x2:List Int):evFnM qzO n qzP qCy [.dat (.int .i32) c0 o0,.dat (.int .i64) e1 o1,.pbox (.osl 21 (.int .i32)) x2 none]=qqB n c0 e1 x2:=by
 kernel_rfl
theorem qoJ:qnN G Tryz.prog 142 s_z142:=by
 refine qcw G_stays (E:=qzO) (fn:=Tryz.f142) (c:=qzP) (qp rfl qdO) (fun w S hg=>⟨⟨qd,fun f sp h=>qbw f sp h w S⟩,qbC w S hg,(fun _ _ h=>by cases h),(fun f sp h=>qck f sp h),(fun f it h=>qcl f it h),(fun t kt vt h=>qbG t kt vt h)⟩) follows Tryz.func142 (by kernel_rfl) (by kernel_rfl) (by kernel_rfl) ?_
 intro avs r h
 unfold s_z142 at h
 split at h
 ·obtain ⟨hp,rfl⟩:=Prod.mk.inj h
  obtain ⟨n,hn⟩:=qtH _ _ _ hp
  exact ⟨n,(qzQ n _ _ _ _ _).trans hn⟩
 ·cases h
def qzR:EnvP:=eQ [] 19 (some [2]) nC (fun x=>if x=0 then some [] else none) nP
def qzS:Code:=cO Tryz.f217
def qCz:Array ResultVar:=Tryz.f217.results
theorem qzT (n:Nat) (c0:UInt8) (o0:Lab):evFnP qzR n qzS qCz [.dat .byte c0 o0]=qqC n c0:=by
 kernel_rfl
theorem qis:qg G Tryz.prog 217 s_z217:=by
 refine sQ (E:=qzR) (c:=qzS) rfl (fun w S hg=>qd) Tryz.func217 ?_
 intro avs r h
 unfold s_z217 at h
 split at h <;> cases h
 obtain ⟨n,hn⟩:=qtC _
 exact ⟨n,_,(qzT n _ _).trans hn,.inl rfl⟩
def qzU:EnvP:=eQ [] 6 (some [2]) nC nC nP
def qzV:Code:=cO Tryz.f235
def qCA:Array ResultVar:=Tryz.f235.results
theorem qzW (n:Nat) (c0:UInt8) (o0:Lab):evFnP qzU n qzV qCA [.dat .byte c0 o0]=qqE n c0:=by
 kernel_rfl
theorem qit:qg G Tryz.prog 235 s_z235:=by
 refine sQ (E:=qzU) (c:=qzV) rfl (fun w S hg=>qd) Tryz.func235 ?_
 intro avs r h
 unfold s_z235 at h
 split at h <;> cases h
 obtain ⟨n,hn⟩:=qtD _
 exact ⟨n,_,(qzW n _ _).trans hn,.inl rfl⟩
def qzX:EnvP:=eQ [(235,s_z235)] 40 (some [4]) nC (fun x=>if x=0 then some [1] else none) nP
def qzY:Code:=cO Tryz.f236
def qCB:Array ResultVar:=Tryz.f236.results
theorem qzZ (n:Nat) (first0:UInt8) (o0:Lab) (c1:UInt8) (o1:Lab):evFnP qzX n qzY qCB [.dat .byte first0 o0,.dat .byte c1 o1]=qqF n first0 c1:=by
 kernel_rfl
theorem qoK:qg G Tryz.prog 236 s_z236:=by
 refine sQ (E:=qzX) (c:=qzY) rfl (fun w S hg=>(qb (qit w S hg) qd)) Tryz.func236 ?_
 intro avs r h
 unfold s_z236 at h
 split at h <;> cases h
 obtain ⟨n,hn⟩:=qtE _ _
 exact ⟨n,_,(qzZ n _ _ _ _).trans hn,.inl rfl⟩
def qaU:EnvP:=eQ [(217,s_z217),(235,s_z235),(236,s_z236)] 45 (some [2]) (fun x=>if x=2 then some [0,3] else none) (fun x=>if x=0 then some [0,3] else if x=1 then some [0,3] else none) nP
def qhm:Code:=cO Tryz.f216
def qoL:Array ResultVar:=Tryz.f216.results
theorem qoM (K:Ex→Fr→Option AV):∀ (n:Nat) (s0:List UInt8) (n3:Int),evLP qaU n (sub qhm [1,1,0,0,0]) K (frOf [(0,(.dat (.sl .byte) s0 none)),(3,(.dat (.int .i64) n3 none))])=qeo (fun s2=>K .ret (frOf [(2,(.dat (.int .i64) s2 none))])) (fun s0 n3=>K (.exit 0) (frOf [(0,(.dat (.sl .byte) s0 none)),(3,(.dat (.int .i64) n3 none))])) n s0 n3:=by
 intro n
 induction n with
 | zero=>intros; rfl
 | succ n IH =>
 intro s0 n3
 have ih:(fun s0 n3=>evLP qaU n (sub qhm [1,1,0,0,0]) K (frOf [(0,(.dat (.sl .byte) s0 none)),(3,(.dat (.int .i64) n3 none))]))=qeo (fun s2=>K .ret (frOf [(2,(.dat (.int .i64) s2 none))])) (fun s0 n3=>K (.exit 0) (frOf [(0,(.dat (.sl .byte) s0 none)),(3,(.dat (.int .i64) n3 none))])) n:=by
  funext s0 n3
  exact IH s0 n3
 show _=qaO (fun s2=>K .ret (frOf [(2,(.dat (.int .i64) s2 none))])) (fun s0 n3=>K (.exit 0) (frOf [(0,(.dat (.sl .byte) s0 none)),(3,(.dat (.int .i64) n3 none))])) (qeo (fun s2=>K .ret (frOf [(2,(.dat (.int .i64) s2 none))])) (fun s0 n3=>K (.exit 0) (frOf [(0,(.dat (.sl .byte) s0 none)),(3,(.dat (.int .i64) n3 none))])) n) n s0 n3
 rw [← ih]
 kernel_rfl
theorem qjC (n:Nat) (s0:List UInt8) (n3:Int):(qc 0 (qaU.cutb 0) (kSeq (evCP qaU (evLP qaU n) (sub qhm [1,1,1])) (kFnP qaU qoL))) (.exit 0) (frOf [(0,(.dat (.sl .byte) s0 none)),(3,(.dat (.int .i64) n3 none))])=qR n s0 n3:=by
 kernel_rfl
theorem qAa (n:Nat) (s0:List UInt8) (o0:Lab):evFnP qaU n qhm qoL [.dat (.sl .byte) s0 o0]=qlq n s0:=by
 unfold qlq
 rw [show qeo qaj (qR n) n=(fun s0 n3=>evLP qaU n (sub qhm [1,1,0,0,0]) (qc 0 (qaU.cutb 0) (kSeq (evCP qaU (evLP qaU n) (sub qhm [1,1,1])) (kFnP qaU qoL))) (frOf [(0,(.dat (.sl .byte) s0 none)),(3,(.dat (.int .i64) n3 none))])) from by
  funext s0 n3
  refine Eq.trans ?_ (qoM (qc 0 (qaU.cutb 0) (kSeq (evCP qaU (evLP qaU n) (sub qhm [1,1,1])) (kFnP qaU qoL))) n s0 n3).symm
  rw [show (fun s0 n3=>(qc 0 (qaU.cutb 0) (kSeq (evCP qaU (evLP qaU n) (sub qhm [1,1,1])) (kFnP qaU qoL))) (.exit 0) (frOf [(0,(.dat (.sl .byte) s0 none)),(3,(.dat (.int .i64) n3 none))]))=(qR n) from by
   funext s0 n3
   exact qjC n s0 n3]
  all_goals kernel_rfl]
 kernel_rfl
theorem qoN:qg G Tryz.prog 216 s_z216:=by
 refine sQ (E:=qaU) (c:=qhm) rfl (fun w S hg=>(qb (qis w S hg) (qb (qit w S hg) (qb (qoK w S hg) qd)))) Tryz.func216 ?_
 intro avs r h
 unfold s_z216 at h
 split at h
 ·obtain ⟨hp,rfl⟩:=Prod.mk.inj h
  obtain ⟨n,hn⟩:=qtF _ hp
  exact ⟨n,_,(qAa n _ _).trans hn,.inl rfl⟩
 ·cases h
def qAb:EnvP:=eQ [] 10 (some [2]) nC (fun x=>if x=0 then some [] else none) nP
def qAc:Code:=cO Tryz.f218
def qCC:Array ResultVar:=Tryz.f218.results
theorem qAd (n:Nat) (n0:Int) (o0:Lab):evFnP qAb n qAc qCC [.dat (.int .i64) n0 o0]=qqG n n0:=by
 kernel_rfl
theorem qoO:qg G Tryz.prog 218 s_z218:=by
 refine sQ (E:=qAb) (c:=qAc) rfl (fun w S hg=>qd) Tryz.func218 ?_
 intro avs r h
 unfold s_z218 at h
 split at h <;> cases h
 obtain ⟨n,hn⟩:=qux _
 exact ⟨n,_,(qAd n _ _).trans hn,.inl rfl⟩
def qaV:EnvP:=eQ [(216,s_z216),(217,s_z217),(218,s_z218)] 63 (some [2,3,4]) (fun x=>if x=12 then some [5,6,48,49,50] else none) (fun x=>if x=0 then some [0,5] else if x=1 then some [5,6] else if x=2 then some [5,6,48,49,50] else none) nP
def qhn:Code:=cO Tryz.f187
def qoP:Array ResultVar:=Tryz.f187.results
theorem qmt (K:Ex→Fr→Option AV):∀ (n:Nat) (n5:Int) (c6:Int) (s48:List UInt8) (s49:Int) (s50:Int),evLP qaV n (sub qhn [1,1,1,1,1,0,1,0,0]) K (frOf [(5,(.dat (.int .i64) n5 none)),(6,(.dat (.int .i32) c6 none)),(48,(.dat (.sl .byte) s48 none)),(49,(.dat (.int .i64) s49 none)),(50,(.dat (.int .i64) s50 none))])=qbT (fun n5 c6=>K (.exit 1) (frOf [(5,(.dat (.int .i64) n5 none)),(6,(.dat (.int .i32) c6 none))])) n n5 c6 s48 s49 s50:=by
 intro n
 induction n with
 | zero=>intros; rfl
 | succ n IH =>
 intro n5 c6 s48 s49 s50
 have ih:(fun n5 c6 s48 s49 s50=>evLP qaV n (sub qhn [1,1,1,1,1,0,1,0,0]) K (frOf [(5,(.dat (.int .i64) n5 none)),(6,(.dat (.int .i32) c6 none)),(48,(.dat (.sl .byte) s48 none)),(49,(.dat (.int .i64) s49 none)),(50,(.dat (.int .i64) s50 none))]))=qbT (fun n5 c6=>K (.exit 1) (frOf [(5,(.dat (.int .i64) n5 none)),(6,(.dat (.int .i32) c6 none))])) n:=by
  funext n5 c6 s48 s49 s50
  exact IH n5 c6 s48 s49 s50
 show _=qbk (fun n5 c6=>K (.exit 1) (frOf [(5,(.dat (.int .i64) n5 none)),(6,(.dat (.int .i32) c6 none))])) (qbT (fun n5 c6=>K (.exit 1) (frOf [(5,(.dat (.int .i64) n5 none)),(6,(.dat (.int .i32) c6 none))])) n) n n5 c6 s48 s49 s50
 rw [← ih]
 kernel_rfl
theorem qiu (n:Nat) (n5:Int) (c6:Int):(qc 1 (qaV.cutb 1) (kSeq (evCP qaV (evLP qaV n) (sub qhn [1,1,1,1,1,1])) (kFnP qaV qoP))) (.exit 1) (frOf [(5,(.dat (.int .i64) n5 none)),(6,(.dat (.int .i32) c6 none))])=qbl n n5 c6:=by
 kernel_rfl
theorem qAe (n:Nat) (s0:List UInt8) (o0:Lab):evFnP qaV n qhn qoP [.dat (.sl .byte) s0 o0]=qlr n s0:=by
 unfold qlr
 rw [show qbT (qbl n) n=(fun n5 c6 s48 s49 s50=>evLP qaV n (sub qhn [1,1,1,1,1,0,1,0,0]) (qc 1 (qaV.cutb 1) (kSeq (evCP qaV (evLP qaV n) (sub qhn [1,1,1,1,1,1])) (kFnP qaV qoP))) (frOf [(5,(.dat (.int .i64) n5 none)),(6,(.dat (.int .i32) c6 none)),(48,(.dat (.sl .byte) s48 none)),(49,(.dat (.int .i64) s49 none)),(50,(.dat (.int .i64) s50 none))])) from by
  funext n5 c6 s48 s49 s50
  refine Eq.trans ?_ (qmt (qc 1 (qaV.cutb 1) (kSeq (evCP qaV (evLP qaV n) (sub qhn [1,1,1,1,1,1])) (kFnP qaV qoP))) n n5 c6 s48 s49 s50).symm
  rw [show (fun n5 c6=>(qc 1 (qaV.cutb 1) (kSeq (evCP qaV (evLP qaV n) (sub qhn [1,1,1,1,1,1])) (kFnP qaV qoP))) (.exit 1) (frOf [(5,(.dat (.int .i64) n5 none)),(6,(.dat (.int .i32) c6 none))]))=(qbl n) from by
   funext n5 c6
   exact qiu n n5 c6]
  all_goals kernel_rfl]
 kernel_rfl
theorem qoQ:qg G Tryz.prog 187 s_z187:=by
 refine sQ (E:=qaV) (c:=qhn) rfl (fun w S hg=>(qb (qoN w S hg) (qb (qis w S hg) (qb (qoO w S hg) qd)))) Tryz.func187 ?_
 intro avs r h
 unfold s_z187 at h
 split at h
 ·obtain ⟨hp,rfl⟩:=Prod.mk.inj h
  obtain ⟨n,hn⟩:=qtG _ hp
  exact ⟨n,_,(qAe n _ _).trans hn,.inl rfl⟩
 ·cases h
def qdP:EnvP:=⟨⟨tiOf tis,fnsOf [(187,s_z187)],cnsOf [],[],23,(fun x=>if x=0 then some [0,1,24] else none),(fun x=>if x=0 then some [24] else if x=1 then some [0,1,24] else none),some [24]⟩,fun _=>none,fun _=>none,fun _=>[],(fun x=>if x=142 then some s_z142 else none),fun _=>none,fun _=>none,fun _=>none⟩
def qoR:Code:=cO Tryz.f141
def qoS:Array ResultVar:=Tryz.f141.results
theorem qiv (K:Ex→Fr→Option AV):∀ (n:Nat) (s0:List UInt8) (s24:List Int),evLP qdP n (sub qoR [0,0]) K (frOf [(0,(.dat (.sl .byte) s0 none)),(1,(.padr 24 [.clo 142 false])),(24,(.pbox (.osl 21 (.int .i32)) s24 none))])=qap (fun s24=>K (.exit 0) (frOf [(24,(.pbox (.osl 21 (.int .i32)) s24 none))])) n s0 s24:=by
 intro n
 induction n with
 | zero=>intros; rfl
 | succ n IH =>
 intro s0 s24
 have ih:(fun s0 s24=>evLP qdP n (sub qoR [0,0]) K (frOf [(0,(.dat (.sl .byte) s0 none)),(1,(.padr 24 [.clo 142 false])),(24,(.pbox (.osl 21 (.int .i32)) s24 none))]))=qap (fun s24=>K (.exit 0) (frOf [(24,(.pbox (.osl 21 (.int .i32)) s24 none))])) n:=by
  funext s0 s24
  exact IH s0 s24
 show _=qbu (fun s24=>K (.exit 0) (frOf [(24,(.pbox (.osl 21 (.int .i32)) s24 none))])) (qap (fun s24=>K (.exit 0) (frOf [(24,(.pbox (.osl 21 (.int .i32)) s24 none))])) n) n s0 s24
 rw [← ih]
 kernel_rfl
theorem qga (s0:List UInt8) (f1:List Int) (n:Nat) (s24:List Int):(qc 0 (qdP.cutb 0) (kFnM qdP qoS [.dat (.sl .byte) s0 none,.fn 142 [.pbox (.osl 21 (.int .i32)) f1 none]])) (.exit 0) (frOf [(24,(.pbox (.osl 21 (.int .i32)) s24 none))])=qal n s24:=by
 kernel_rfl
theorem qoT (n:Nat) (s0:List UInt8) (o0:Lab) (f1:List Int):evFnM qdP n qoR qoS [.dat (.sl .byte) s0 o0,.fn 142 [.pbox (.osl 21 (.int .i32)) f1 none]]=qfJ n s0 f1:=by
 unfold qfJ
 rw [show qap (qal n) n=(fun s0 s24=>evLP qdP n (sub qoR [0,0]) (qc 0 (qdP.cutb 0) (kFnM qdP qoS [.dat (.sl .byte) s0 none,.fn 142 [.pbox (.osl 21 (.int .i32)) f1 none]])) (frOf [(0,(.dat (.sl .byte) s0 none)),(1,(.padr 24 [.clo 142 false])),(24,(.pbox (.osl 21 (.int .i32)) s24 none))])) from by
  funext s0 s24
  refine Eq.trans ?_ (qiv (qc 0 (qdP.cutb 0) (kFnM qdP qoS [.dat (.sl .byte) s0 none,.fn 142 [.pbox (.osl 21 (.int .i32)) f1 none]])) n s0 s24).symm
  rw [show (fun s24=>(qc 0 (qdP.cutb 0) (kFnM qdP qoS [.dat (.sl .byte) s0 none,.fn 142 [.pbox (.osl 21 (.int .i32)) f1 none]])) (.exit 0) (frOf [(24,(.pbox (.osl 21 (.int .i32)) s24 none))]))=(qal n) from by
   funext s24
   exact qga s0 f1 n s24]
  all_goals kernel_rfl]
 kernel_rfl
theorem qoU:qnN G Tryz.prog 141 s_z141:=by
 refine qcw G_stays (E:=qdP) (fn:=Tryz.f141) (c:=qoR) (qp rfl qdO) (fun w S hg=>⟨⟨(qb (qoQ w S hg) qd),fun f sp h=>qbw f sp h w S⟩,qbC w S hg,(fun f sp h=>(qmT (qoJ w S hg) quK) f sp h),(fun _ _ h=>by cases h),(fun _ _ h=>by cases h),(fun _ _ _ h=>by cases h)⟩) follows Tryz.func141 (by kernel_rfl) (by kernel_rfl) (by kernel_rfl) ?_
 intro avs r h
 unfold s_z141 at h
 split at h
 ·obtain ⟨hp,rfl⟩:=Prod.mk.inj h
  obtain ⟨n,hn⟩:=qjR _ _ hp
  exact ⟨n,(qoT n _ _ _).trans hn⟩
 ·cases h
def E_z96:EnvP:=⟨⟨tiOf tis,fnsOf [],cnsOf [],[],8,(fun _=>none),(fun _=>none),some [2]⟩,(fun x=>if x=3 then some (.osl 21 (.int .i32)) else none),fun _=>none,fun _=>[],(fun x=>if x=141 then some s_z141 else none),fun _=>none,fun _=>none,fun _=>none⟩
def C_z96:Code:=cO Tryz.f96
def R_z96:Array ResultVar:=Tryz.f96.results
theorem qCD (n:Nat) (s0:List UInt8) (o0:Lab):evFnP E_z96 n C_z96 R_z96 [.dat (.sl .byte) s0 o0]=qxp n s0:=by
 kernel_rfl
theorem qsO:qg G Tryz.prog 96 s_z96:=by
 refine qN G_stays (E:=E_z96) (fn:=Tryz.f96) (c:=C_z96) (qp rfl qdO) (fun w S hg=>⟨⟨qd,fun f sp h=>qbw f sp h w S⟩,qbC w S hg,(fun f sp h=>(qmT (qoU w S hg) quK) f sp h),(fun f sp h=>qck f sp h),(fun f it h=>qcl f it h),(fun t kt vt h=>qbG t kt vt h)⟩) follows Tryz.func96 (by kernel_rfl) (by kernel_rfl) (by kernel_rfl) ?_
 intro avs r h
 unfold s_z96 at h
 split at h
 ·obtain ⟨hp,rfl⟩:=Prod.mk.inj h
  obtain ⟨n,hn⟩:=qwY _ hp
  exact ⟨n,_,(qCD n _ _).trans hn,.inl rfl⟩
 ·cases h
def E_z52:EnvP:=eQ [(93,s_z93),(94,s_z94),(95,s_z95),(96,s_z96),(97,s_z97)] 24 (some [1000004]) nC (fun x=>if x=0 then some [1] else none) nP
def C_z52:Code:=cO Tryz.f52
def R_z52:Array ResultVar:=Tryz.f52.results
theorem qCE (n:Nat) (charset0:Int) (o0:Lab) (s1:List UInt8) (o1:Lab):evFnP E_z52 n C_z52 R_z52 [.dat (.int .i64) charset0 o0,.dat (.sl .byte) s1 o1]=qxq n charset0 s1:=by
 kernel_rfl
theorem qsP:qg G Tryz.prog 52 s_z52:=by
 refine sQ (E:=E_z52) (c:=C_z52) rfl (fun w S hg=>(qb (qsJ w S hg) (qb (qsL w S hg) (qb (qsN w S hg) (qb (qsO w S hg) (qb (qkX w S hg) qd)))))) Tryz.func52 ?_
 intro avs r h
 unfold s_z52 at h
 split at h
 ·obtain ⟨hp,rfl⟩:=Prod.mk.inj h
  obtain ⟨n,hn⟩:=qwG _ _ hp
  exact ⟨n,_,(qCE n _ _ _ _).trans hn,.inl rfl⟩
 ·cases h
def qx:EnvP:=⟨⟨tiOf tis,fnsOf [(133,s_z133)],cnsOf [],[],22,(fun x=>if x=3 then some [1,2] else if x=6 then some [1,2,11,12,13] else none),(fun x=>if x=0 then some [1] else if x=1 then some [1,2] else if x=2 then some [1,2] else if x=3 then some [1,2,11,12,13] else none),none⟩,fun _=>none,fun _=>none,fun _=>[],fun _=>none,fun _=>none,fun _=>none,(fun x=>if x=117 then some (9,3) else none)⟩
def qaB:Code:=cO Tryz.f106
def qoV:Array ResultVar:=Tryz.f106.results
theorem qoW (K:Ex→Fr→Option AV):∀ (n:Nat) (m1:List ((List UInt8)×Int)) (n2:Int) (s11:List (List UInt8)) (s12:Int) (s13:Int),evLP qx n (sub qaB [1,1,0,1,0,0,1,0,0,1,0,0]) K (frOf [(1,(.abs (.sl (.pair .str (.int .i64))) (qac .str (.int .i64)) m1)),(2,(.dat (.int .i64) n2 none)),(11,(.dat (.sl .str) s11 (some (11,9)))),(12,(.dat (.int .i64) s12 none)),(13,(.dat (.int .i64) s13 none))])=qgr (fun m1 n2=>K (.exit 2) (frOf [(1,(.abs (.sl (.pair .str (.int .i64))) (qac .str (.int .i64)) m1)),(2,(.dat (.int .i64) n2 none))])) n m1 n2 s11 s12 s13:=by
 intro n
 induction n with
 | zero=>intros; rfl
 | succ n IH =>
 intro m1 n2 s11 s12 s13
 have ih:(fun m1 n2 s11 s12 s13=>evLP qx n (sub qaB [1,1,0,1,0,0,1,0,0,1,0,0]) K (frOf [(1,(.abs (.sl (.pair .str (.int .i64))) (qac .str (.int .i64)) m1)),(2,(.dat (.int .i64) n2 none)),(11,(.dat (.sl .str) s11 (some (11,9)))),(12,(.dat (.int .i64) s12 none)),(13,(.dat (.int .i64) s13 none))]))=qgr (fun m1 n2=>K (.exit 2) (frOf [(1,(.abs (.sl (.pair .str (.int .i64))) (qac .str (.int .i64)) m1)),(2,(.dat (.int .i64) n2 none))])) n:=by
  funext m1 n2 s11 s12 s13
  exact IH m1 n2 s11 s12 s13
 show _=qls (fun m1 n2=>K (.exit 2) (frOf [(1,(.abs (.sl (.pair .str (.int .i64))) (qac .str (.int .i64)) m1)),(2,(.dat (.int .i64) n2 none))])) (qgr (fun m1 n2=>K (.exit 2) (frOf [(1,(.abs (.sl (.pair .str (.int .i64))) (qac .str (.int .i64)) m1)),(2,(.dat (.int .i64) n2 none))])) n) n m1 n2 s11 s12 s13
 rw [← ih]
 kernel_rfl
theorem qjD (K:Ex→Fr→Option AV) (n:Nat) (m1:List ((List UInt8)×Int)) (n2:Int):(qc 2 (qx.cutb 2) (qc 1 (qx.cutb 1) (kSeq (evCP qx (evLP qx n) (sub qaB [1,1,0,1,0,0,1,1])) (kSeq (fun K fr=>evLP qx n (sub qaB [1,1,0,1,0,0]) K (cutFP (qx.cuts 3) fr)) K)))) (.exit 2) (frOf [(1,(.abs (.sl (.pair .str (.int .i64))) (qac .str (.int .i64)) m1)),(2,(.dat (.int .i64) n2 none))])=qeN (fun m1=>K (.exit 0) (frOf [(1,(.abs (.sl (.pair .str (.int .i64))) (qac .str (.int .i64)) m1))])) (fun m1 n2=>evLP qx n (sub qaB [1,1,0,1,0,0]) K (frOf [(1,(.abs (.sl (.pair .str (.int .i64))) (qac .str (.int .i64)) m1)),(2,(.dat (.int .i64) n2 none))])) n m1 n2:=by
 kernel_rfl
theorem qoX (K:Ex→Fr→Option AV):∀ (n:Nat) (m1:List ((List UInt8)×Int)) (n2:Int),evLP qx n (sub qaB [1,1,0,1,0,0]) K (frOf [(1,(.abs (.sl (.pair .str (.int .i64))) (qac .str (.int .i64)) m1)),(2,(.dat (.int .i64) n2 none))])=qgs (fun m1=>K (.exit 0) (frOf [(1,(.abs (.sl (.pair .str (.int .i64))) (qac .str (.int .i64)) m1))])) n m1 n2:=by
 intro n
 induction n with
 | zero=>intros; rfl
 | succ n IH =>
 intro m1 n2
 have ih:(fun m1 n2=>evLP qx n (sub qaB [1,1,0,1,0,0]) K (frOf [(1,(.abs (.sl (.pair .str (.int .i64))) (qac .str (.int .i64)) m1)),(2,(.dat (.int .i64) n2 none))]))=qgs (fun m1=>K (.exit 0) (frOf [(1,(.abs (.sl (.pair .str (.int .i64))) (qac .str (.int .i64)) m1))])) n:=by
  funext m1 n2
  exact IH m1 n2
 show _=qhA (fun m1=>K (.exit 0) (frOf [(1,(.abs (.sl (.pair .str (.int .i64))) (qac .str (.int .i64)) m1))])) (qgs (fun m1=>K (.exit 0) (frOf [(1,(.abs (.sl (.pair .str (.int .i64))) (qac .str (.int .i64)) m1))])) n) n m1 n2
 rw [← ih]
 unfold qhA
 rw [show qgr (qeN (fun m1=>K (.exit 0) (frOf [(1,(.abs (.sl (.pair .str (.int .i64))) (qac .str (.int .i64)) m1))])) (fun m1 n2=>evLP qx n (sub qaB [1,1,0,1,0,0]) K (frOf [(1,(.abs (.sl (.pair .str (.int .i64))) (qac .str (.int .i64)) m1)),(2,(.dat (.int .i64) n2 none))])) n) n=(fun m1 n2 s11 s12 s13=>evLP qx n (sub qaB [1,1,0,1,0,0,1,0,0,1,0,0]) (qc 2 (qx.cutb 2) (qc 1 (qx.cutb 1) (kSeq (evCP qx (evLP qx n) (sub qaB [1,1,0,1,0,0,1,1])) (kSeq (fun K fr=>evLP qx n (sub qaB [1,1,0,1,0,0]) K (cutFP (qx.cuts 3) fr)) K)))) (frOf [(1,(.abs (.sl (.pair .str (.int .i64))) (qac .str (.int .i64)) m1)),(2,(.dat (.int .i64) n2 none)),(11,(.dat (.sl .str) s11 (some (11,9)))),(12,(.dat (.int .i64) s12 none)),(13,(.dat (.int .i64) s13 none))])) from by
  funext m1 n2 s11 s12 s13
  refine Eq.trans ?_ (qoW (qc 2 (qx.cutb 2) (qc 1 (qx.cutb 1) (kSeq (evCP qx (evLP qx n) (sub qaB [1,1,0,1,0,0,1,1])) (kSeq (fun K fr=>evLP qx n (sub qaB [1,1,0,1,0,0]) K (cutFP (qx.cuts 3) fr)) K)))) n m1 n2 s11 s12 s13).symm
  rw [show (fun m1 n2=>(qc 2 (qx.cutb 2) (qc 1 (qx.cutb 1) (kSeq (evCP qx (evLP qx n) (sub qaB [1,1,0,1,0,0,1,1])) (kSeq (fun K fr=>evLP qx n (sub qaB [1,1,0,1,0,0]) K (cutFP (qx.cuts 3) fr)) K)))) (.exit 2) (frOf [(1,(.abs (.sl (.pair .str (.int .i64))) (qac .str (.int .i64)) m1)),(2,(.dat (.int .i64) n2 none))]))=(qeN (fun m1=>K (.exit 0) (frOf [(1,(.abs (.sl (.pair .str (.int .i64))) (qac .str (.int .i64)) m1))])) (fun m1 n2=>evLP qx n (sub qaB [1,1,0,1,0,0]) K (frOf [(1,(.abs (.sl (.pair .str (.int .i64))) (qac .str (.int .i64)) m1)),(2,(.dat (.int .i64) n2 none))])) n) from by
   funext m1 n2
   exact qjD K n m1 n2]
  all_goals kernel_rfl]
 kernel_rfl
theorem qjE (n:Nat) (m1:List ((List UInt8)×Int)):(qc 0 (qx.cutb 0) (kSeq (evCP qx (evLP qx n) (sub qaB [1,1,1])) (kFnR qoV))) (.exit 0) (frOf [(1,(.abs (.sl (.pair .str (.int .i64))) (qac .str (.int .i64)) m1))])=qeO n m1:=by
 kernel_rfl
theorem qAf (n:Nat)  : evFnR qx n qaB qoV []=qqI n  := by
 unfold qqI
 rw [show qgs (qeO n) n=(fun m1 n2=>evLP qx n (sub qaB [1,1,0,1,0,0]) (qc 0 (qx.cutb 0) (kSeq (evCP qx (evLP qx n) (sub qaB [1,1,1])) (kFnR qoV))) (frOf [(1,(.abs (.sl (.pair .str (.int .i64))) (qac .str (.int .i64)) m1)),(2,(.dat (.int .i64) n2 none))])) from by
  funext m1 n2
  refine Eq.trans ?_ (qoX (qc 0 (qx.cutb 0) (kSeq (evCP qx (evLP qx n) (sub qaB [1,1,1])) (kFnR qoV))) n m1 n2).symm
  rw [show (fun m1=>(qc 0 (qx.cutb 0) (kSeq (evCP qx (evLP qx n) (sub qaB [1,1,1])) (kFnR qoV))) (.exit 0) (frOf [(1,(.abs (.sl (.pair .str (.int .i64))) (qac .str (.int .i64)) m1))]))=(qeO n) from by
   funext m1
   exact qjE n m1]
  all_goals kernel_rfl]
 kernel_rfl
theorem qoY:qvW G Tryz.prog 106 s_z106:=by
 refine qeX G_stays (E:=qx) (fn:=Tryz.f106) (c:=qaB) (qp rfl qdO) (fun w S hg=>⟨⟨(qb (qir w S hg) qd),fun f sp h=>qbw f sp h w S⟩,qbC w S hg,(fun _ _ h=>by cases h),(fun f sp h=>qck f sp h),(fun f it h=>qcl f it h),(fun t kt vt h=>(qmV (by kernel_rfl) qbG) t kt vt h)⟩) follows Tryz.func106 (by kernel_rfl) (by kernel_rfl) (by kernel_rfl) ?_
 intro avs r h
 unfold s_z106 at h
 split at h <;> cases h
 obtain ⟨n,hn⟩:=qtw
 exact ⟨n,(qAf n ).trans hn⟩
end
end Go.Av
