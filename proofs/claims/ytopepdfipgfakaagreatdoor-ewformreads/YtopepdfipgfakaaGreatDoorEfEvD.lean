import Derived.Test.YtopepdfipgfakaaGreatDoorEfEvC
import Derived.Test.YtopepdfipgfakaaGreatDoorEfLayX
import Derived.Test.YtopepdfipgfakaaGreatDoorProg
import Derived.KernelRfl
namespace Go.Av
noncomputable section
open Go.Proofs
set_option maxRecDepth 100000
def qbm:EnvP:=eQ [(217,s_z217),(235,s_z235),(236,s_z236)] 45 (some [2]) (fun x=>if x=2 then some [0,3] else none) (fun x=>if x=0 then some [0,3] else if x=1 then some [0,3] else none) nP
def qjD:Code:=cO Tryz.f216
def qtl:Array ResultVar:=Tryz.f216.results
theorem qtm (K:Ex→Fr→OA):∀ (n:Nat) (s0:LU) (n3:Int),evLP qbm n (sub qjD [1,1,0,0,0]) K (frOf [(0,(.dat (.sl .byte) s0 none)),(3,(.dat (.int .i64) n3 none))])=qfL (fun s2=>K .ret (frOf [(2,(.dat (.int .i64) s2 none))])) (fun s0 n3=>K (.exit 0) (frOf [(0,(.dat (.sl .byte) s0 none)),(3,(.dat (.int .i64) n3 none))])) n s0 n3:=by
 intro n
 induction n with
 | zero=>intros; rfl
 | succ n IH =>
 intro s0 n3
 have ih:(fun s0 n3=>evLP qbm n (sub qjD [1,1,0,0,0]) K (frOf [(0,(.dat (.sl .byte) s0 none)),(3,(.dat (.int .i64) n3 none))]))=qfL (fun s2=>K .ret (frOf [(2,(.dat (.int .i64) s2 none))])) (fun s0 n3=>K (.exit 0) (frOf [(0,(.dat (.sl .byte) s0 none)),(3,(.dat (.int .i64) n3 none))])) n:=by
  funext s0 n3
  exact IH s0 n3
 show _=qbe (fun s2=>K .ret (frOf [(2,(.dat (.int .i64) s2 none))])) (fun s0 n3=>K (.exit 0) (frOf [(0,(.dat (.sl .byte) s0 none)),(3,(.dat (.int .i64) n3 none))])) (qfL (fun s2=>K .ret (frOf [(2,(.dat (.int .i64) s2 none))])) (fun s0 n3=>K (.exit 0) (frOf [(0,(.dat (.sl .byte) s0 none)),(3,(.dat (.int .i64) n3 none))])) n) n s0 n3
 rw [← ih]
 kernel_rfl
theorem qmC (n:Nat) (s0:LU) (n3:Int):(qb 0 (qbm.cutb 0) (kSeq (evCP qbm (evLP qbm n) (sub qjD [1,1,1])) (kFnP qbm qtl))) (.exit 0) (frOf [(0,(.dat (.sl .byte) s0 none)),(3,(.dat (.int .i64) n3 none))])=qV n s0 n3:=by
 kernel_rfl
theorem qHE (n:Nat) (s0:LU) (o0:Lab):evFnP qbm n qjD qtl [.dat (.sl .byte) s0 o0]=qpj n s0:=by
 unfold qpj
 rw [show qfL qas (qV n) n=(fun s0 n3=>evLP qbm n (sub qjD [1,1,0,0,0]) (qb 0 (qbm.cutb 0) (kSeq (evCP qbm (evLP qbm n) (sub qjD [1,1,1])) (kFnP qbm qtl))) (frOf [(0,(.dat (.sl .byte) s0 none)),(3,(.dat (.int .i64) n3 none))])) from by
  funext s0 n3
  refine Eq.trans ?_ (qtm (qb 0 (qbm.cutb 0) (kSeq (evCP qbm (evLP qbm n) (sub qjD [1,1,1])) (kFnP qbm qtl))) n s0 n3).symm
  rw [show (fun s0 n3=>(qb 0 (qbm.cutb 0) (kSeq (evCP qbm (evLP qbm n) (sub qjD [1,1,1])) (kFnP qbm qtl))) (.exit 0) (frOf [(0,(.dat (.sl .byte) s0 none)),(3,(.dat (.int .i64) n3 none))]))=(qV n) from by
   funext s0 n3
   exact qmC n s0 n3]
  all_goals kernel_rfl]
 kernel_rfl
theorem qtn:qe G Tryz.prog 216 s_z216:=by
 refine sQ (E:=qbm) (c:=qjD) rfl (fun w S hg=>(qa (qkZ w S hg) (qa (qla w S hg) (qa (qtk w S hg) qd)))) Tryz.func216 ?_
 intro avs r h
 unfold s_z216 at h
 split at h
 ·obtain ⟨hp,rfl⟩:=Prod.mk.inj h
  obtain ⟨n,hn⟩:=qAc _ hp
  exact ⟨n,_,(qHE n _ _).trans hn,.inl rfl⟩
 ·cases h
def qHF:EnvP:=eQ [] 10 (some [2]) nC (fun x=>if x=0 then some [] else none) nP
def qHG:Code:=cO Tryz.f218
def qKM:Array ResultVar:=Tryz.f218.results
theorem qHH (n:Nat) (n0:Int) (o0:Lab):evFnP qHF n qHG qKM [.dat (.int .i64) n0 o0]=qwa n n0:=by
 kernel_rfl
theorem qto:qe G Tryz.prog 218 s_z218:=by
 refine sQ (E:=qHF) (c:=qHG) rfl (fun w S hg=>qd) Tryz.func218 ?_
 intro avs r h
 unfold s_z218 at h
 split at h <;> cases h
 obtain ⟨n,hn⟩:=qBh _
 exact ⟨n,_,(qHH n _ _).trans hn,.inl rfl⟩
def qbn:EnvP:=eQ [(216,s_z216),(217,s_z217),(218,s_z218)] 63 (some [2,3,4]) (fun x=>if x=12 then some [5,6,48,49,50] else none) (fun x=>if x=0 then some [0,5] else if x=1 then some [5,6] else if x=2 then some [5,6,48,49,50] else none) nP
def qjE:Code:=cO Tryz.f187
def qtp:Array ResultVar:=Tryz.f187.results
theorem qqA (K:Ex→Fr→OA):∀ (n:Nat) (n5:Int) (c6:Int) (s48:LU) (s49:Int) (s50:Int),evLP qbn n (sub qjE [1,1,1,1,1,0,1,0,0]) K (frOf [(5,(.dat (.int .i64) n5 none)),(6,(.dat (.int .i32) c6 none)),(48,(.dat (.sl .byte) s48 none)),(49,(.dat (.int .i64) s49 none)),(50,(.dat (.int .i64) s50 none))])=qcB (fun n5 c6=>K (.exit 1) (frOf [(5,(.dat (.int .i64) n5 none)),(6,(.dat (.int .i32) c6 none))])) n n5 c6 s48 s49 s50:=by
 intro n
 induction n with
 | zero=>intros; rfl
 | succ n IH =>
 intro n5 c6 s48 s49 s50
 have ih:(fun n5 c6 s48 s49 s50=>evLP qbn n (sub qjE [1,1,1,1,1,0,1,0,0]) K (frOf [(5,(.dat (.int .i64) n5 none)),(6,(.dat (.int .i32) c6 none)),(48,(.dat (.sl .byte) s48 none)),(49,(.dat (.int .i64) s49 none)),(50,(.dat (.int .i64) s50 none))]))=qcB (fun n5 c6=>K (.exit 1) (frOf [(5,(.dat (.int .i64) n5 none)),(6,(.dat (.int .i32) c6 none))])) n:=by
  funext n5 c6 s48 s49 s50
  exact IH n5 c6 s48 s49 s50
 show _=qbO (fun n5 c6=>K (.exit 1) (frOf [(5,(.dat (.int .i64) n5 none)),(6,(.dat (.int .i32) c6 none))])) (qcB (fun n5 c6=>K (.exit 1) (frOf [(5,(.dat (.int .i64) n5 none)),(6,(.dat (.int .i32) c6 none))])) n) n n5 c6 s48 s49 s50
 rw [← ih]
 kernel_rfl
theorem qlb (n:Nat) (n5:Int) (c6:Int):(qb 1 (qbn.cutb 1) (kSeq (evCP qbn (evLP qbn n) (sub qjE [1,1,1,1,1,1])) (kFnP qbn qtp))) (.exit 1) (frOf [(5,(.dat (.int .i64) n5 none)),(6,(.dat (.int .i32) c6 none))])=qbP n n5 c6:=by
 kernel_rfl
theorem qHI (n:Nat) (s0:LU) (o0:Lab):evFnP qbn n qjE qtp [.dat (.sl .byte) s0 o0]=qpk n s0:=by
 unfold qpk
 rw [show qcB (qbP n) n=(fun n5 c6 s48 s49 s50=>evLP qbn n (sub qjE [1,1,1,1,1,0,1,0,0]) (qb 1 (qbn.cutb 1) (kSeq (evCP qbn (evLP qbn n) (sub qjE [1,1,1,1,1,1])) (kFnP qbn qtp))) (frOf [(5,(.dat (.int .i64) n5 none)),(6,(.dat (.int .i32) c6 none)),(48,(.dat (.sl .byte) s48 none)),(49,(.dat (.int .i64) s49 none)),(50,(.dat (.int .i64) s50 none))])) from by
  funext n5 c6 s48 s49 s50
  refine Eq.trans ?_ (qqA (qb 1 (qbn.cutb 1) (kSeq (evCP qbn (evLP qbn n) (sub qjE [1,1,1,1,1,1])) (kFnP qbn qtp))) n n5 c6 s48 s49 s50).symm
  rw [show (fun n5 c6=>(qb 1 (qbn.cutb 1) (kSeq (evCP qbn (evLP qbn n) (sub qjE [1,1,1,1,1,1])) (kFnP qbn qtp))) (.exit 1) (frOf [(5,(.dat (.int .i64) n5 none)),(6,(.dat (.int .i32) c6 none))]))=(qbP n) from by
   funext n5 c6
   exact qlb n n5 c6]
  all_goals kernel_rfl]
 kernel_rfl
theorem qtq:qe G Tryz.prog 187 s_z187:=by
 refine sQ (E:=qbn) (c:=qjE) rfl (fun w S hg=>(qa (qtn w S hg) (qa (qkZ w S hg) (qa (qto w S hg) qd)))) Tryz.func187 ?_
 intro avs r h
 unfold s_z187 at h
 split at h
 ·obtain ⟨hp,rfl⟩:=Prod.mk.inj h
  obtain ⟨n,hn⟩:=qAd _ hp
  exact ⟨n,_,(qHI n _ _).trans hn,.inl rfl⟩
 ·cases h
def qfb:EnvP:=⟨⟨tiOf tis,fnsOf [(187,s_z187)],cnsOf [],[],23,(fun x=>if x=0 then some [0,1,24] else none),(fun x=>if x=0 then some [24] else if x=1 then some [0,1,24] else none),some [24]⟩,fun _=>none,fun _=>none,fun _=>[],(fun x=>if x=142 then some s_z142 else none),fun _=>none,fun _=>none,fun _=>none⟩
def qtr:Code:=cO Tryz.f141
def qts:Array ResultVar:=Tryz.f141.results
theorem qlc (K:Ex→Fr→OA):∀ (n:Nat) (s0:LU) (s24:LI),evLP qfb n (sub qtr [0,0]) K (frOf [(0,(.dat (.sl .byte) s0 none)),(1,(.padr 24 [.clo 142 false])),(24,(.pbox (.osl 21 (.int .i32)) s24 none))])=qaA (fun s24=>K (.exit 0) (frOf [(24,(.pbox (.osl 21 (.int .i32)) s24 none))])) n s0 s24:=by
 intro n
 induction n with
 | zero=>intros; rfl
 | succ n IH =>
 intro s0 s24
 have ih:(fun s0 s24=>evLP qfb n (sub qtr [0,0]) K (frOf [(0,(.dat (.sl .byte) s0 none)),(1,(.padr 24 [.clo 142 false])),(24,(.pbox (.osl 21 (.int .i32)) s24 none))]))=qaA (fun s24=>K (.exit 0) (frOf [(24,(.pbox (.osl 21 (.int .i32)) s24 none))])) n:=by
  funext s0 s24
  exact IH s0 s24
 show _=qbZ (fun s24=>K (.exit 0) (frOf [(24,(.pbox (.osl 21 (.int .i32)) s24 none))])) (qaA (fun s24=>K (.exit 0) (frOf [(24,(.pbox (.osl 21 (.int .i32)) s24 none))])) n) n s0 s24
 rw [← ih]
 kernel_rfl
theorem qia (s0:LU) (f1:LI) (n:Nat) (s24:LI):(qb 0 (qfb.cutb 0) (kFnM qfb qts [.dat (.sl .byte) s0 none,.fn 142 [.pbox (.osl 21 (.int .i32)) f1 none]])) (.exit 0) (frOf [(24,(.pbox (.osl 21 (.int .i32)) s24 none))])=qau n s24:=by
 kernel_rfl
theorem qtt (n:Nat) (s0:LU) (o0:Lab) (f1:LI):evFnM qfb n qtr qts [.dat (.sl .byte) s0 o0,.fn 142 [.pbox (.osl 21 (.int .i32)) f1 none]]=qhv n s0 f1:=by
 unfold qhv
 rw [show qaA (qau n) n=(fun s0 s24=>evLP qfb n (sub qtr [0,0]) (qb 0 (qfb.cutb 0) (kFnM qfb qts [.dat (.sl .byte) s0 none,.fn 142 [.pbox (.osl 21 (.int .i32)) f1 none]])) (frOf [(0,(.dat (.sl .byte) s0 none)),(1,(.padr 24 [.clo 142 false])),(24,(.pbox (.osl 21 (.int .i32)) s24 none))])) from by
  funext s0 s24
  refine Eq.trans ?_ (qlc (qb 0 (qfb.cutb 0) (kFnM qfb qts [.dat (.sl .byte) s0 none,.fn 142 [.pbox (.osl 21 (.int .i32)) f1 none]])) n s0 s24).symm
  rw [show (fun s24=>(qb 0 (qfb.cutb 0) (kFnM qfb qts [.dat (.sl .byte) s0 none,.fn 142 [.pbox (.osl 21 (.int .i32)) f1 none]])) (.exit 0) (frOf [(24,(.pbox (.osl 21 (.int .i32)) s24 none))]))=(qau n) from by
   funext s24
   exact qia s0 f1 n s24]
  all_goals kernel_rfl]
 kernel_rfl
theorem qtu:qse G Tryz.prog 141 s_z141:=by
 refine qdx G_stays (E:=qfb) (fn:=Tryz.f141) (c:=qtr) (qr rfl qfa) (fun w S hg=>⟨⟨(qa (qtq w S hg) qd),fun f sp h=>qcg f sp h w S⟩,qcj w S hg,(fun f sp h=>(qrl (qtj w S hg) qBt) f sp h),(fun _ _ h=>by cases h),(fun _ _ h=>by cases h),(fun _ _ _ h=>by cases h)⟩) follows Tryz.func141 (by kernel_rfl) (by kernel_rfl) (by kernel_rfl) ?_
 intro avs r h
 unfold s_z141 at h
 split at h
 ·obtain ⟨hp,rfl⟩:=Prod.mk.inj h
  obtain ⟨n,hn⟩:=qng _ _ hp
  exact ⟨n,(qtt n _ _ _).trans hn⟩
 ·cases h
def E_z96:EnvP:=⟨⟨tiOf tis,fnsOf [],cnsOf [],[],8,(fun _=>none),(fun _=>none),some [2]⟩,(fun x=>if x=3 then some (.osl 21 (.int .i32)) else none),fun _=>none,fun _=>[],(fun x=>if x=141 then some s_z141 else none),fun _=>none,fun _=>none,fun _=>none⟩
def C_z96:Code:=cO Tryz.f96
def R_z96:Array ResultVar:=Tryz.f96.results
theorem qKN (n:Nat) (s0:LU) (o0:Lab):evFnP E_z96 n C_z96 R_z96 [.dat (.sl .byte) s0 o0]=qEr n s0:=by
 kernel_rfl
theorem qyC:qe G Tryz.prog 96 s_z96:=by
 refine qP G_stays (E:=E_z96) (fn:=Tryz.f96) (c:=C_z96) (qr rfl qfa) (fun w S hg=>⟨⟨qd,fun f sp h=>qcg f sp h w S⟩,qcj w S hg,(fun f sp h=>(qrl (qtu w S hg) qBt) f sp h),(fun f sp h=>qdi f sp h),(fun f it h=>qdj f it h),(fun t kt vt h=>qcn t kt vt h)⟩) follows Tryz.func96 (by kernel_rfl) (by kernel_rfl) (by kernel_rfl) ?_
 intro avs r h
 unfold s_z96 at h
 split at h
 ·obtain ⟨hp,rfl⟩:=Prod.mk.inj h
  obtain ⟨n,hn⟩:=qDY _ hp
  exact ⟨n,_,(qKN n _ _).trans hn,.inl rfl⟩
 ·cases h
def E_z52:EnvP:=eQ [(93,s_z93),(94,s_z94),(95,s_z95),(96,s_z96),(97,s_z97)] 24 (some [1000004]) nC (fun x=>if x=0 then some [1] else none) nP
def C_z52:Code:=cO Tryz.f52
def R_z52:Array ResultVar:=Tryz.f52.results
theorem qKO (n:Nat) (charset0:Int) (o0:Lab) (s1:LU) (o1:Lab):evFnP E_z52 n C_z52 R_z52 [.dat (.int .i64) charset0 o0,.dat (.sl .byte) s1 o1]=qEs n charset0 s1:=by
 kernel_rfl
theorem qyD:qe G Tryz.prog 52 s_z52:=by
 refine sQ (E:=E_z52) (c:=C_z52) rfl (fun w S hg=>(qa (qyx w S hg) (qa (qyz w S hg) (qa (qyB w S hg) (qa (qyC w S hg) (qa (qow w S hg) qd)))))) Tryz.func52 ?_
 intro avs r h
 unfold s_z52 at h
 split at h
 ·obtain ⟨hp,rfl⟩:=Prod.mk.inj h
  obtain ⟨n,hn⟩:=qDq _ _ hp
  exact ⟨n,_,(qKO n _ _ _ _).trans hn,.inl rfl⟩
 ·cases h
def qy:EnvP:=⟨⟨tiOf tis,fnsOf [(133,s_z133)],cnsOf [],[],22,(fun x=>if x=3 then some [1,2] else if x=6 then some [1,2,11,12,13] else none),(fun x=>if x=0 then some [1] else if x=1 then some [1,2] else if x=2 then some [1,2] else if x=3 then some [1,2,11,12,13] else none),none⟩,fun _=>none,fun _=>none,fun _=>[],fun _=>none,fun _=>none,fun _=>none,(fun x=>if x=117 then some (9,3) else none)⟩
def qaN:Code:=cO Tryz.f106
def qtv:Array ResultVar:=Tryz.f106.results
theorem qtw (K:Ex→Fr→OA):∀ (n:Nat) (m1:List (LU×Int)) (n2:Int) (s11:List LU) (s12:Int) (s13:Int),evLP qy n (sub qaN [1,1,0,1,0,0,1,0,0,1,0,0]) K (frOf [(1,(.abs (.sl (.pair .str (.int .i64))) (qak .str (.int .i64)) m1)),(2,(.dat (.int .i64) n2 none)),(11,(.dat (.sl .str) s11 (some (11,9)))),(12,(.dat (.int .i64) s12 none)),(13,(.dat (.int .i64) s13 none))])=qiA (fun m1 n2=>K (.exit 2) (frOf [(1,(.abs (.sl (.pair .str (.int .i64))) (qak .str (.int .i64)) m1)),(2,(.dat (.int .i64) n2 none))])) n m1 n2 s11 s12 s13:=by
 intro n
 induction n with
 | zero=>intros; rfl
 | succ n IH =>
 intro m1 n2 s11 s12 s13
 have ih:(fun m1 n2 s11 s12 s13=>evLP qy n (sub qaN [1,1,0,1,0,0,1,0,0,1,0,0]) K (frOf [(1,(.abs (.sl (.pair .str (.int .i64))) (qak .str (.int .i64)) m1)),(2,(.dat (.int .i64) n2 none)),(11,(.dat (.sl .str) s11 (some (11,9)))),(12,(.dat (.int .i64) s12 none)),(13,(.dat (.int .i64) s13 none))]))=qiA (fun m1 n2=>K (.exit 2) (frOf [(1,(.abs (.sl (.pair .str (.int .i64))) (qak .str (.int .i64)) m1)),(2,(.dat (.int .i64) n2 none))])) n:=by
  funext m1 n2 s11 s12 s13
  exact IH m1 n2 s11 s12 s13
 show _=qpl (fun m1 n2=>K (.exit 2) (frOf [(1,(.abs (.sl (.pair .str (.int .i64))) (qak .str (.int .i64)) m1)),(2,(.dat (.int .i64) n2 none))])) (qiA (fun m1 n2=>K (.exit 2) (frOf [(1,(.abs (.sl (.pair .str (.int .i64))) (qak .str (.int .i64)) m1)),(2,(.dat (.int .i64) n2 none))])) n) n m1 n2 s11 s12 s13
 rw [← ih]
 kernel_rfl
theorem qmD (K:Ex→Fr→OA) (n:Nat) (m1:List (LU×Int)) (n2:Int):(qb 2 (qy.cutb 2) (qb 1 (qy.cutb 1) (kSeq (evCP qy (evLP qy n) (sub qaN [1,1,0,1,0,0,1,1])) (kSeq (fun K fr=>evLP qy n (sub qaN [1,1,0,1,0,0]) K (cutFP (qy.cuts 3) fr)) K)))) (.exit 2) (frOf [(1,(.abs (.sl (.pair .str (.int .i64))) (qak .str (.int .i64)) m1)),(2,(.dat (.int .i64) n2 none))])=qgp (fun m1=>K (.exit 0) (frOf [(1,(.abs (.sl (.pair .str (.int .i64))) (qak .str (.int .i64)) m1))])) (fun m1 n2=>evLP qy n (sub qaN [1,1,0,1,0,0]) K (frOf [(1,(.abs (.sl (.pair .str (.int .i64))) (qak .str (.int .i64)) m1)),(2,(.dat (.int .i64) n2 none))])) n m1 n2:=by
 kernel_rfl
theorem qtx (K:Ex→Fr→OA):∀ (n:Nat) (m1:List (LU×Int)) (n2:Int),evLP qy n (sub qaN [1,1,0,1,0,0]) K (frOf [(1,(.abs (.sl (.pair .str (.int .i64))) (qak .str (.int .i64)) m1)),(2,(.dat (.int .i64) n2 none))])=qiB (fun m1=>K (.exit 0) (frOf [(1,(.abs (.sl (.pair .str (.int .i64))) (qak .str (.int .i64)) m1))])) n m1 n2:=by
 intro n
 induction n with
 | zero=>intros; rfl
 | succ n IH =>
 intro m1 n2
 have ih:(fun m1 n2=>evLP qy n (sub qaN [1,1,0,1,0,0]) K (frOf [(1,(.abs (.sl (.pair .str (.int .i64))) (qak .str (.int .i64)) m1)),(2,(.dat (.int .i64) n2 none))]))=qiB (fun m1=>K (.exit 0) (frOf [(1,(.abs (.sl (.pair .str (.int .i64))) (qak .str (.int .i64)) m1))])) n:=by
  funext m1 n2
  exact IH m1 n2
 show _=qkd (fun m1=>K (.exit 0) (frOf [(1,(.abs (.sl (.pair .str (.int .i64))) (qak .str (.int .i64)) m1))])) (qiB (fun m1=>K (.exit 0) (frOf [(1,(.abs (.sl (.pair .str (.int .i64))) (qak .str (.int .i64)) m1))])) n) n m1 n2
 rw [← ih]
 unfold qkd
 rw [show qiA (qgp (fun m1=>K (.exit 0) (frOf [(1,(.abs (.sl (.pair .str (.int .i64))) (qak .str (.int .i64)) m1))])) (fun m1 n2=>evLP qy n (sub qaN [1,1,0,1,0,0]) K (frOf [(1,(.abs (.sl (.pair .str (.int .i64))) (qak .str (.int .i64)) m1)),(2,(.dat (.int .i64) n2 none))])) n) n=(fun m1 n2 s11 s12 s13=>evLP qy n (sub qaN [1,1,0,1,0,0,1,0,0,1,0,0]) (qb 2 (qy.cutb 2) (qb 1 (qy.cutb 1) (kSeq (evCP qy (evLP qy n) (sub qaN [1,1,0,1,0,0,1,1])) (kSeq (fun K fr=>evLP qy n (sub qaN [1,1,0,1,0,0]) K (cutFP (qy.cuts 3) fr)) K)))) (frOf [(1,(.abs (.sl (.pair .str (.int .i64))) (qak .str (.int .i64)) m1)),(2,(.dat (.int .i64) n2 none)),(11,(.dat (.sl .str) s11 (some (11,9)))),(12,(.dat (.int .i64) s12 none)),(13,(.dat (.int .i64) s13 none))])) from by
  funext m1 n2 s11 s12 s13
  refine Eq.trans ?_ (qtw (qb 2 (qy.cutb 2) (qb 1 (qy.cutb 1) (kSeq (evCP qy (evLP qy n) (sub qaN [1,1,0,1,0,0,1,1])) (kSeq (fun K fr=>evLP qy n (sub qaN [1,1,0,1,0,0]) K (cutFP (qy.cuts 3) fr)) K)))) n m1 n2 s11 s12 s13).symm
  rw [show (fun m1 n2=>(qb 2 (qy.cutb 2) (qb 1 (qy.cutb 1) (kSeq (evCP qy (evLP qy n) (sub qaN [1,1,0,1,0,0,1,1])) (kSeq (fun K fr=>evLP qy n (sub qaN [1,1,0,1,0,0]) K (cutFP (qy.cuts 3) fr)) K)))) (.exit 2) (frOf [(1,(.abs (.sl (.pair .str (.int .i64))) (qak .str (.int .i64)) m1)),(2,(.dat (.int .i64) n2 none))]))=(qgp (fun m1=>K (.exit 0) (frOf [(1,(.abs (.sl (.pair .str (.int .i64))) (qak .str (.int .i64)) m1))])) (fun m1 n2=>evLP qy n (sub qaN [1,1,0,1,0,0]) K (frOf [(1,(.abs (.sl (.pair .str (.int .i64))) (qak .str (.int .i64)) m1)),(2,(.dat (.int .i64) n2 none))])) n) from by
   funext m1 n2
   exact qmD K n m1 n2]
  all_goals kernel_rfl]
 kernel_rfl
theorem qmE (n:Nat) (m1:List (LU×Int)):(qb 0 (qy.cutb 0) (kSeq (evCP qy (evLP qy n) (sub qaN [1,1,1])) (kFnR qtv))) (.exit 0) (frOf [(1,(.abs (.sl (.pair .str (.int .i64))) (qak .str (.int .i64)) m1))])=qgq n m1:=by
 kernel_rfl
theorem qHJ (n:Nat)  : evFnR qy n qaN qtv []=qwc n  := by
 unfold qwc
 rw [show qiB (qgq n) n=(fun m1 n2=>evLP qy n (sub qaN [1,1,0,1,0,0]) (qb 0 (qy.cutb 0) (kSeq (evCP qy (evLP qy n) (sub qaN [1,1,1])) (kFnR qtv))) (frOf [(1,(.abs (.sl (.pair .str (.int .i64))) (qak .str (.int .i64)) m1)),(2,(.dat (.int .i64) n2 none))])) from by
  funext m1 n2
  refine Eq.trans ?_ (qtx (qb 0 (qy.cutb 0) (kSeq (evCP qy (evLP qy n) (sub qaN [1,1,1])) (kFnR qtv))) n m1 n2).symm
  rw [show (fun m1=>(qb 0 (qy.cutb 0) (kSeq (evCP qy (evLP qy n) (sub qaN [1,1,1])) (kFnR qtv))) (.exit 0) (frOf [(1,(.abs (.sl (.pair .str (.int .i64))) (qak .str (.int .i64)) m1))]))=(qgq n) from by
   funext m1
   exact qmE n m1]
  all_goals kernel_rfl]
 kernel_rfl
theorem qty:qCJ G Tryz.prog 106 s_z106:=by
 refine qgB G_stays (E:=qy) (fn:=Tryz.f106) (c:=qaN) (qr rfl qfa) (fun w S hg=>⟨⟨(qa (qkY w S hg) qd),fun f sp h=>qcg f sp h w S⟩,qcj w S hg,(fun _ _ h=>by cases h),(fun f sp h=>qdi f sp h),(fun f it h=>qdj f it h),(fun t kt vt h=>(qrn (by kernel_rfl) qcn) t kt vt h)⟩) follows Tryz.func106 (by kernel_rfl) (by kernel_rfl) (by kernel_rfl) ?_
 intro avs r h
 unfold s_z106 at h
 split at h <;> cases h
 obtain ⟨n,hn⟩:=qzU
 exact ⟨n,(qHJ n ).trans hn⟩
def qbo:EnvP:=eQ [] 21 (some [1000004]) (fun x=>if x=1 then some [0,1] else none) (fun x=>if x=0 then some [0] else if x=1 then some [0,1] else none) nP
def qjF:Code:=cO Tryz.f221
def qtz:Array ResultVar:=Tryz.f221.results
theorem qtA (K:Ex→Fr→OA):∀ (n:Nat) (s0:LU) (c1:UInt8),evLP qbo n (sub qjF [1,0,0,0]) K (frOf [(0,(.dat (.sl .byte) s0 none)),(1,(.dat .byte c1 none))])=qiC (fun s0=>K (.exit 0) (frOf [(0,(.dat (.sl .byte) s0 none))])) n s0 c1:=by
 intro n
 induction n with
 | zero=>intros; rfl
 | succ n IH =>
 intro s0 c1
 have ih:(fun s0 c1=>evLP qbo n (sub qjF [1,0,0,0]) K (frOf [(0,(.dat (.sl .byte) s0 none)),(1,(.dat .byte c1 none))]))=qiC (fun s0=>K (.exit 0) (frOf [(0,(.dat (.sl .byte) s0 none))])) n:=by
  funext s0 c1
  exact IH s0 c1
 show _=qpm (fun s0=>K (.exit 0) (frOf [(0,(.dat (.sl .byte) s0 none))])) (qiC (fun s0=>K (.exit 0) (frOf [(0,(.dat (.sl .byte) s0 none))])) n) n s0 c1
 rw [← ih]
 kernel_rfl
theorem qmF (n:Nat) (s0:LU):(qb 0 (qbo.cutb 0) (kSeq (evCP qbo (evLP qbo n) (sub qjF [1,1])) (kFnP qbo qtz))) (.exit 0) (frOf [(0,(.dat (.sl .byte) s0 none))])=qgr n s0:=by
 kernel_rfl
theorem qHK (n:Nat) (s0:LU) (o0:Lab) (c1:UInt8) (o1:Lab):evFnP qbo n qjF qtz [.dat (.sl .byte) s0 o0,.dat .byte c1 o1]=qwd n s0 c1:=by
 unfold qwd
 rw [show qiC (qgr n) n=(fun s0 c1=>evLP qbo n (sub qjF [1,0,0,0]) (qb 0 (qbo.cutb 0) (kSeq (evCP qbo (evLP qbo n) (sub qjF [1,1])) (kFnP qbo qtz))) (frOf [(0,(.dat (.sl .byte) s0 none)),(1,(.dat .byte c1 none))])) from by
  funext s0 c1
  refine Eq.trans ?_ (qtA (qb 0 (qbo.cutb 0) (kSeq (evCP qbo (evLP qbo n) (sub qjF [1,1])) (kFnP qbo qtz))) n s0 c1).symm
  rw [show (fun s0=>(qb 0 (qbo.cutb 0) (kSeq (evCP qbo (evLP qbo n) (sub qjF [1,1])) (kFnP qbo qtz))) (.exit 0) (frOf [(0,(.dat (.sl .byte) s0 none))]))=(qgr n) from by
   funext s0
   exact qmF n s0]
  all_goals kernel_rfl]
 kernel_rfl
theorem qtB:qe G Tryz.prog 221 s_z221:=by
 refine sQ (E:=qbo) (c:=qjF) rfl (fun w S hg=>qd) Tryz.func221 ?_
 intro avs r h
 unfold s_z221 at h
 split at h
 ·obtain ⟨hp,rfl⟩:=Prod.mk.inj h
  obtain ⟨n,hn⟩:=qAI _ _ hp
  exact ⟨n,_,(qHK n _ _ _ _).trans hn,.inl rfl⟩
 ·cases h
def qbp:EnvP:=eQ [] 24 (some [4]) (fun x=>if x=1 then some [0,1] else none) (fun x=>if x=0 then some [0] else if x=1 then some [0,1] else none) nP
def qjG:Code:=cO Tryz.f222
def qtC:Array ResultVar:=Tryz.f222.results
theorem qtD (K:Ex→Fr→OA):∀ (n:Nat) (s0:LU) (c1:UInt8),evLP qbp n (sub qjG [1,0,0,0]) K (frOf [(0,(.dat (.sl .byte) s0 none)),(1,(.dat .byte c1 none))])=qiD (fun s0=>K (.exit 0) (frOf [(0,(.dat (.sl .byte) s0 none))])) n s0 c1:=by
 intro n
 induction n with
 | zero=>intros; rfl
 | succ n IH =>
 intro s0 c1
 have ih:(fun s0 c1=>evLP qbp n (sub qjG [1,0,0,0]) K (frOf [(0,(.dat (.sl .byte) s0 none)),(1,(.dat .byte c1 none))]))=qiD (fun s0=>K (.exit 0) (frOf [(0,(.dat (.sl .byte) s0 none))])) n:=by
  funext s0 c1
  exact IH s0 c1
 show _=qpn (fun s0=>K (.exit 0) (frOf [(0,(.dat (.sl .byte) s0 none))])) (qiD (fun s0=>K (.exit 0) (frOf [(0,(.dat (.sl .byte) s0 none))])) n) n s0 c1
 rw [← ih]
 kernel_rfl
theorem qmG (n:Nat) (s0:LU):(qb 0 (qbp.cutb 0) (kSeq (evCP qbp (evLP qbp n) (sub qjG [1,1])) (kFnP qbp qtC))) (.exit 0) (frOf [(0,(.dat (.sl .byte) s0 none))])=qgs n s0:=by
 kernel_rfl
theorem qHL (n:Nat) (s0:LU) (o0:Lab) (c1:UInt8) (o1:Lab):evFnP qbp n qjG qtC [.dat (.sl .byte) s0 o0,.dat .byte c1 o1]=qwf n s0 c1:=by
 unfold qwf
 rw [show qiD (qgs n) n=(fun s0 c1=>evLP qbp n (sub qjG [1,0,0,0]) (qb 0 (qbp.cutb 0) (kSeq (evCP qbp (evLP qbp n) (sub qjG [1,1])) (kFnP qbp qtC))) (frOf [(0,(.dat (.sl .byte) s0 none)),(1,(.dat .byte c1 none))])) from by
  funext s0 c1
  refine Eq.trans ?_ (qtD (qb 0 (qbp.cutb 0) (kSeq (evCP qbp (evLP qbp n) (sub qjG [1,1])) (kFnP qbp qtC))) n s0 c1).symm
  rw [show (fun s0=>(qb 0 (qbp.cutb 0) (kSeq (evCP qbp (evLP qbp n) (sub qjG [1,1])) (kFnP qbp qtC))) (.exit 0) (frOf [(0,(.dat (.sl .byte) s0 none))]))=(qgs n) from by
   funext s0
   exact qmG n s0]
  all_goals kernel_rfl]
 kernel_rfl
theorem qtE:qe G Tryz.prog 222 s_z222:=by
 refine sQ (E:=qbp) (c:=qjG) rfl (fun w S hg=>qd) Tryz.func222 ?_
 intro avs r h
 unfold s_z222 at h
 split at h
 ·obtain ⟨hp,rfl⟩:=Prod.mk.inj h
  obtain ⟨n,hn⟩:=qAJ _ _ hp
  exact ⟨n,_,(qHL n _ _ _ _).trans hn,.inl rfl⟩
 ·cases h
def qbq:EnvP:=eQ [] 21 (some [2,3]) (fun x=>if x=2 then some [0,2,4] else none) (fun x=>if x=0 then some [2] else if x=1 then some [0,2,4] else none) nP
def qjH:Code:=cO Tryz.f223
def qtF:Array ResultVar:=Tryz.f223.results
theorem qtG (K:Ex→Fr→OA):∀ (n:Nat) (chars0:LU) (as2:List Bool) (i4:Int),evLP qbq n (sub qjH [1,0,1,0,0]) K (frOf [(0,(.dat .str chars0 none)),(2,(.box (.arr 256 .bool) as2)),(4,(.dat (.int .i64) i4 none))])=qer (fun as2 ok3=>K .ret (frOf [(2,(.box (.arr 256 .bool) as2)),(3,(.dat .bool ok3 none))])) (fun as2=>K (.exit 0) (frOf [(2,(.box (.arr 256 .bool) as2))])) n chars0 as2 i4:=by
 intro n
 induction n with
 | zero=>intros; rfl
 | succ n IH =>
 intro chars0 as2 i4
 have ih:(fun chars0 as2 i4=>evLP qbq n (sub qjH [1,0,1,0,0]) K (frOf [(0,(.dat .str chars0 none)),(2,(.box (.arr 256 .bool) as2)),(4,(.dat (.int .i64) i4 none))]))=qer (fun as2 ok3=>K .ret (frOf [(2,(.box (.arr 256 .bool) as2)),(3,(.dat .bool ok3 none))])) (fun as2=>K (.exit 0) (frOf [(2,(.box (.arr 256 .bool) as2))])) n:=by
  funext chars0 as2 i4
  exact IH chars0 as2 i4
 show _=qcN (fun as2 ok3=>K .ret (frOf [(2,(.box (.arr 256 .bool) as2)),(3,(.dat .bool ok3 none))])) (fun as2=>K (.exit 0) (frOf [(2,(.box (.arr 256 .bool) as2))])) (qer (fun as2 ok3=>K .ret (frOf [(2,(.box (.arr 256 .bool) as2)),(3,(.dat .bool ok3 none))])) (fun as2=>K (.exit 0) (frOf [(2,(.box (.arr 256 .bool) as2))])) n) n chars0 as2 i4
 rw [← ih]
 kernel_rfl
theorem qmH (n:Nat) (as2:List Bool):(qb 0 (qbq.cutb 0) (kSeq (evCP qbq (evLP qbq n) (sub qjH [1,1])) (kFnP qbq qtF))) (.exit 0) (frOf [(2,(.box (.arr 256 .bool) as2))])=qes n as2:=by
 kernel_rfl
theorem qHM (n:Nat) (chars0:LU) (o0:Lab):evFnP qbq n qjH qtF [.dat .str chars0 o0]=qwg n chars0:=by
 unfold qwg
 rw [show qer qhw (qes n) n=(fun chars0 as2 i4=>evLP qbq n (sub qjH [1,0,1,0,0]) (qb 0 (qbq.cutb 0) (kSeq (evCP qbq (evLP qbq n) (sub qjH [1,1])) (kFnP qbq qtF))) (frOf [(0,(.dat .str chars0 none)),(2,(.box (.arr 256 .bool) as2)),(4,(.dat (.int .i64) i4 none))])) from by
  funext chars0 as2 i4
  refine Eq.trans ?_ (qtG (qb 0 (qbq.cutb 0) (kSeq (evCP qbq (evLP qbq n) (sub qjH [1,1])) (kFnP qbq qtF))) n chars0 as2 i4).symm
  rw [show (fun as2=>(qb 0 (qbq.cutb 0) (kSeq (evCP qbq (evLP qbq n) (sub qjH [1,1])) (kFnP qbq qtF))) (.exit 0) (frOf [(2,(.box (.arr 256 .bool) as2))]))=(qes n) from by
   funext as2
   exact qmH n as2]
  all_goals kernel_rfl]
 kernel_rfl
theorem qtH:qe G Tryz.prog 223 s_z223:=by
 refine sQ (E:=qbq) (c:=qjH) rfl (fun w S hg=>qd) Tryz.func223 ?_
 intro avs r h
 unfold s_z223 at h
 split at h
 ·obtain ⟨hp,rfl⟩:=Prod.mk.inj h
  obtain ⟨n,hn⟩:=qAA _ hp
  exact ⟨n,_,(qHM n _ _).trans hn,.inl rfl⟩
 ·cases h
def qHN:EnvP:=eQ [] 10 (some [4]) nC nC nP
def qHO:Code:=cO Tryz.f238
def qKP:Array ResultVar:=Tryz.f238.results
theorem qHP (n:Nat) (as0:List Bool) (c1:UInt8) (o1:Lab):evFnP qHN n qHO qKP [.adr (.arr 256 .bool) as0,.dat .byte c1 o1]=qwi n as0 c1:=by
 kernel_rfl
theorem qld:qe G Tryz.prog 238 s_z238:=by
 refine sQ (E:=qHN) (c:=qHO) rfl (fun w S hg=>qd) Tryz.func238 ?_
 intro avs r h
 unfold s_z238 at h
 split at h <;> cases h
 obtain ⟨n,hn⟩:=qAB _ _
 exact ⟨n,_,(qHP n _ _ _).trans hn,.inl rfl⟩
def qbr:EnvP:=eQ [(238,s_z238)] 20 (some [1000004]) (fun x=>if x=1 then some [0,1] else none) (fun x=>if x=0 then some [0] else if x=1 then some [0,1] else none) nP
def qjI:Code:=cO Tryz.f224
def qtI:Array ResultVar:=Tryz.f224.results
theorem qtJ (K:Ex→Fr→OA):∀ (n:Nat) (s0:LU) (as1:List Bool),evLP qbr n (sub qjI [1,0,0,0]) K (frOf [(0,(.dat (.sl .byte) s0 none)),(1,(.adr (.arr 256 .bool) as1))])=qfM (fun s0=>K (.exit 0) (frOf [(0,(.dat (.sl .byte) s0 none))])) n s0 as1:=by
 intro n
 induction n with
 | zero=>intros; rfl
 | succ n IH =>
 intro s0 as1
 have ih:(fun s0 as1=>evLP qbr n (sub qjI [1,0,0,0]) K (frOf [(0,(.dat (.sl .byte) s0 none)),(1,(.adr (.arr 256 .bool) as1))]))=qfM (fun s0=>K (.exit 0) (frOf [(0,(.dat (.sl .byte) s0 none))])) n:=by
  funext s0 as1
  exact IH s0 as1
 show _=qgt (fun s0=>K (.exit 0) (frOf [(0,(.dat (.sl .byte) s0 none))])) (qfM (fun s0=>K (.exit 0) (frOf [(0,(.dat (.sl .byte) s0 none))])) n) n s0 as1
 rw [← ih]
 kernel_rfl
theorem qmI (n:Nat) (s0:LU):(qb 0 (qbr.cutb 0) (kSeq (evCP qbr (evLP qbr n) (sub qjI [1,1])) (kFnP qbr qtI))) (.exit 0) (frOf [(0,(.dat (.sl .byte) s0 none))])=qet n s0:=by
 kernel_rfl
theorem qHQ (n:Nat) (s0:LU) (o0:Lab) (as1:List Bool):evFnP qbr n qjI qtI [.dat (.sl .byte) s0 o0,.adr (.arr 256 .bool) as1]=qpo n s0 as1:=by
 unfold qpo
 rw [show qfM (qet n) n=(fun s0 as1=>evLP qbr n (sub qjI [1,0,0,0]) (qb 0 (qbr.cutb 0) (kSeq (evCP qbr (evLP qbr n) (sub qjI [1,1])) (kFnP qbr qtI))) (frOf [(0,(.dat (.sl .byte) s0 none)),(1,(.adr (.arr 256 .bool) as1))])) from by
  funext s0 as1
  refine Eq.trans ?_ (qtJ (qb 0 (qbr.cutb 0) (kSeq (evCP qbr (evLP qbr n) (sub qjI [1,1])) (kFnP qbr qtI))) n s0 as1).symm
  rw [show (fun s0=>(qb 0 (qbr.cutb 0) (kSeq (evCP qbr (evLP qbr n) (sub qjI [1,1])) (kFnP qbr qtI))) (.exit 0) (frOf [(0,(.dat (.sl .byte) s0 none))]))=(qet n) from by
   funext s0
   exact qmI n s0]
  all_goals kernel_rfl]
 kernel_rfl
theorem qtK:qe G Tryz.prog 224 s_z224:=by
 refine sQ (E:=qbr) (c:=qjI) rfl (fun w S hg=>(qa (qld w S hg) qd)) Tryz.func224 ?_
 intro avs r h
 unfold s_z224 at h
 split at h
 ·obtain ⟨hp,rfl⟩:=Prod.mk.inj h
  obtain ⟨n,hn⟩:=qAL _ _ hp
  exact ⟨n,_,(qHQ n _ _ _).trans hn,.inl rfl⟩
 ·cases h
end
end Go.Av
