import Derived.Test.YtopepdfipgfakaaDoorCuEvD
import Derived.Test.YtopepdfipgfakaaDoorCuC
import Derived.Test.YtopepdfipgfakaaDoorProg
import Derived.KernelRfl
namespace Go.Av
set_option linter.unusedSimpArgs false
noncomputable section
open Go.Proofs
set_option maxRecDepth 100000
set_option linter.unusedVariables false
def E_z17:EnvP:=eQ [(27,s_z27),(28,s_z28)] 11 (some [2]) nC nC nP
def C_z17:Code:=cO Tryd.f17
def R_z17:Array ResultVar:=Tryd.f17.results
theorem qzl (n:Nat) (charset0:Int) (o0:Lab):evFnP E_z17 n C_z17 R_z17 [.dat (.int .i64) charset0 o0]=quJ n charset0:=by
 kernel_rfl
theorem qqx:qg Gc Tryd.prog 17 s_z17:=by
 refine sQ (E:=E_z17) (c:=C_z17) rfl (fun w S hg=>(qb (qjU w S hg) (qb (qjW w S hg) qd))) Tryd.func17 ?_
 intro avs r h
 unfold s_z17 at h
 split at h <;> cases h
 obtain ⟨n,hn⟩:=qvs _
 exact ⟨n,_,(qzl n _ _).trans hn,.inl rfl⟩
def E_z10:EnvP:=eQ [(16,s_z16),(17,s_z17)] 24 (some [6,7]) nC nC nP
def C_z10:Code:=cO Tryd.f10
def R_z10:Array ResultVar:=Tryd.f10.results
theorem qzm (n:Nat) (charset0:Int) (o0:Lab) (code1:Int) (o1:Lab) (t2:List Int) (o2:Lab):evFnP E_z10 n C_z10 R_z10 [.dat (.int .i64) charset0 o0,.dat (.int .i64) code1 o1,.dat (.sl (.int .i32)) t2 o2]=quK n charset0 code1 t2:=by
 kernel_rfl
theorem qjX:qg Gc Tryd.prog 10 s_z10:=by
 refine sQ (E:=E_z10) (c:=C_z10) rfl (fun w S hg=>(qb (qge w S hg) (qb (qqx w S hg) qd))) Tryd.func10 ?_
 intro avs r h
 unfold s_z10 at h
 split at h
 ·obtain ⟨hp,rfl⟩:=Prod.mk.inj h
  obtain ⟨n,hn⟩:=qwi _ _ _ hp
  exact ⟨n,_,(qzm n _ _ _ _ _ _).trans hn,.inl rfl⟩
 ·cases h
def E_z29:EnvP:=eQ [(10,s_z10)] 31 (some [8]) nC nC nP
def C_z29:Code:=cO Tryd.f29
def R_z29:Array ResultVar:=Tryd.f29.results
theorem qzn (n:Nat) (charset0:Int) (o0:Lab) (code1:Int) (o1:Lab) (t2:List Int) (o2:Lab) (room3:Int) (o3:Lab):evFnP E_z29 n C_z29 R_z29 [.dat (.int .i64) charset0 o0,.dat (.int .i64) code1 o1,.dat (.sl (.int .i32)) t2 o2,.dat (.int .i64) room3 o3]=quL n charset0 code1 t2 room3:=by
 kernel_rfl
theorem qqy:qg Gc Tryd.prog 29 s_z29:=by
 refine sQ (E:=E_z29) (c:=C_z29) rfl (fun w S hg=>(qb (qjX w S hg) qd)) Tryd.func29 ?_
 intro avs r h
 unfold s_z29 at h
 split at h
 ·obtain ⟨hp,rfl⟩:=Prod.mk.inj h
  obtain ⟨n,hn⟩:=qwm _ _ _ _ hp
  exact ⟨n,_,(qzn n _ _ _ _ _ _ _ _).trans hn,.inl rfl⟩
 ·cases h
def E_z19:EnvP:=eQ [(29,s_z29)] 27 (some [8]) (fun x=>if x=2 then some [0,1,2,3,9] else none) (fun x=>if x=0 then some [9] else if x=1 then some [0,1,2,3,9] else none) nP
def C_z19:Code:=cO Tryd.f19
def R_z19:Array ResultVar:=Tryd.f19.results
noncomputable def qhj (K:Ex→Fr→Option AV):=fun many9=>K (.exit 0) (frOf [(9,(.dat (.int .i64) many9 none))])
def qjY (n:Nat):Ex→Fr→Option AV:=qN 0 (E_z19.cutb 0) (kSeq (evCP E_z19 (evLP E_z19 n) (sub C_z19 [1,1,1])) (kFnP E_z19 R_z19))
def qnu (charset0:Int) (code1:Int) (t2:List Int) (room3:Int) (many9:Int):Fr:=frOf [(0,(.dat (.int .i64) charset0 none)),(1,(.dat (.int .i64) code1 none)),(2,(.dat (.sl (.int .i32)) t2 none)),(3,(.dat (.int .i64) room3 none)),(9,(.dat (.int .i64) many9 none))]
theorem qqz (K:Ex→Fr→Option AV):∀ (n:Nat) (charset0:Int) (code1:Int) (t2:List Int) (room3:Int) (many9:Int),evLP E_z19 n (sub C_z19 [1,1,0,0,0]) K (qnu charset0 code1 t2 room3 many9)=qiB (qhj K) n charset0 code1 t2 room3 many9:=by
 intro n
 induction n with
 | zero=>intros; rfl
 | succ n IH =>
 intro charset0 code1 t2 room3 many9
 have ih:(fun charset0 code1 t2 room3 many9=>evLP E_z19 n (sub C_z19 [1,1,0,0,0]) K (qnu charset0 code1 t2 room3 many9))=qiB (qhj K) n:=by
  funext charset0 code1 t2 room3 many9
  exact IH charset0 code1 t2 room3 many9
 show _=qdm (qhj K) (qiB (qhj K) n) n charset0 code1 t2 room3 many9
 rw [← ih]
 kernel_rfl
theorem qlo (n:Nat) (many9:Int):(qjY n) (.exit 0) (frOf [(9,(.dat (.int .i64) many9 none))])=qeM n many9:=by
 kernel_rfl
theorem qzo (n:Nat) (charset0:Int) (o0:Lab) (code1:Int) (o1:Lab) (t2:List Int) (o2:Lab) (room3:Int) (o3:Lab):evFnP E_z19 n C_z19 R_z19 [.dat (.int .i64) charset0 o0,.dat (.int .i64) code1 o1,.dat (.sl (.int .i32)) t2 o2,.dat (.int .i64) room3 o3]=qrx n charset0 code1 t2 room3:=by
 unfold qrx
 rw [show qiB (qeM n) n=(fun charset0 code1 t2 room3 many9=>evLP E_z19 n (sub C_z19 [1,1,0,0,0]) (qjY n) (qnu charset0 code1 t2 room3 many9)) from by
  funext charset0 code1 t2 room3 many9
  refine Eq.trans ?_ (qqz (qjY n) n charset0 code1 t2 room3 many9).symm
  rw [show (qhj (qjY n))=(qeM n) from by
   funext many9
   exact qlo n many9]
  all_goals kernel_rfl]
 kernel_rfl
theorem qqA:qg Gc Tryd.prog 19 s_z19:=by
 refine sQ (E:=E_z19) (c:=C_z19) rfl (fun w S hg=>(qb (qqy w S hg) qd)) Tryd.func19 ?_
 intro avs r h
 unfold s_z19 at h
 split at h
 ·obtain ⟨hp,rfl⟩:=Prod.mk.inj h
  obtain ⟨n,hn⟩:=qwn _ _ _ _ hp
  exact ⟨n,_,(qzo n _ _ _ _ _ _ _ _).trans hn,.inl rfl⟩
 ·cases h
def E_z18:EnvP:=eQ [(19,s_z19)] 28 (some [28,29,30,31,32]) (fun x=>if x=0 then some [0,1,2,3,4,28,29,30,31,32] else none) (fun x=>if x=0 then some [28,29,30,31,32] else if x=1 then some [0,1,2,3,4,28,29,30,31,32] else none) nP
def C_z18:Code:=cO Tryd.f18
def R_z18:Array ResultVar:=Tryd.f18.results
def qjZ (V:Sigma Inv) (x0:Den V.1) (x1:List Int) (x2:Int) (x3:Int) (x4:Int):Ex→Fr→Option AV:=qN 0 (E_z18.cutb 0) (kFnM E_z18 R_z18 [.abs V.1 V.2 x0,.pbox (.leaf (.sl (.int .i32))) x1 none,.pbox (.leaf (.int .i64)) x2 none,.pbox (.leaf (.int .i64)) x3 none,.pbox (.leaf (.int .i64)) x4 none])
def qnv (V:Sigma Inv) (xv:Den V.1) (s29:List Int) (s30:Int) (s31:Int) (s32:Int):Fr:=frOf [(0,(.padr 28 [])),(1,(.padr 29 [])),(2,(.padr 30 [])),(3,(.padr 31 [])),(4,(.padr 32 [])),(28,(.abs V.1 V.2 xv)),(29,(.pbox (.leaf (.sl (.int .i32))) s29 none)),(30,(.pbox (.leaf (.int .i64)) s30 none)),(31,(.pbox (.leaf (.int .i64)) s31 none)),(32,(.pbox (.leaf (.int .i64)) s32 none))]
def qbP (V:Sigma Inv) (xv:Den V.1) (s29:List Int) (s30:Int) (s31:Int) (s32:Int):Fr:=frOf [(28,(.abs V.1 V.2 xv)),(29,(.pbox (.leaf (.sl (.int .i32))) s29 none)),(30,(.pbox (.leaf (.int .i64)) s30 none)),(31,(.pbox (.leaf (.int .i64)) s31 none)),(32,(.pbox (.leaf (.int .i64)) s32 none))]
theorem qqB (V:Sigma Inv) (K:Ex→Fr→Option AV):∀ (n:Nat) (xv:Den V.1) (s29:List Int) (s30:Int) (s31:Int) (s32:Int),evLP E_z18 n (sub C_z18 [0,0]) K (qnv V xv s29 s30 s31 s32)=(qiC V) (fun xv s29 s30 s31 s32=>K .ret (qbP V xv s29 s30 s31 s32)) (fun xv s29 s30 s31 s32=>K (.exit 0) (qbP V xv s29 s30 s31 s32)) n xv s29 s30 s31 s32:=by
 intro n
 induction n with
 | zero=>intros; rfl
 | succ n IH =>
 intro xv s29 s30 s31 s32
 have ih:(fun xv s29 s30 s31 s32=>evLP E_z18 n (sub C_z18 [0,0]) K (qnv V xv s29 s30 s31 s32))=(qiC V) (fun xv s29 s30 s31 s32=>K .ret (qbP V xv s29 s30 s31 s32)) (fun xv s29 s30 s31 s32=>K (.exit 0) (qbP V xv s29 s30 s31 s32)) n:=by
  funext xv s29 s30 s31 s32
  exact IH xv s29 s30 s31 s32
 show _=(qgj V) (fun xv s29 s30 s31 s32=>K .ret (qbP V xv s29 s30 s31 s32)) (fun xv s29 s30 s31 s32=>K (.exit 0) (qbP V xv s29 s30 s31 s32)) ((qiC V) (fun xv s29 s30 s31 s32=>K .ret (qbP V xv s29 s30 s31 s32)) (fun xv s29 s30 s31 s32=>K (.exit 0) (qbP V xv s29 s30 s31 s32)) n) n xv s29 s30 s31 s32
 rw [← ih]
 kernel_rfl
theorem qlp (V:Sigma Inv) (x0:Den V.1) (x1:List Int) (x2:Int) (x3:Int) (x4:Int) (n:Nat) (xv:Den V.1) (s29:List Int) (s30:Int) (s31:Int) (s32:Int):(qjZ V x0 x1 x2 x3 x4) (.exit 0) (qbP V xv s29 s30 s31 s32)=(qeN V) n xv s29 s30 s31 s32:=by
 kernel_rfl
theorem qzp (V:Sigma Inv) (n:Nat) (x0:Den V.1) (x1:List Int) (x2:Int) (x3:Int) (x4:Int):evFnM E_z18 n C_z18 R_z18 [.abs V.1 V.2 x0,.pbox (.leaf (.sl (.int .i32))) x1 none,.pbox (.leaf (.int .i64)) x2 none,.pbox (.leaf (.int .i64)) x3 none,.pbox (.leaf (.int .i64)) x4 none]=(quM V) n x0 x1 x2 x3 x4:=by
 unfold quM
 rw [show (qiC V) (qft V) ((qeN V) n) n=(fun xv s29 s30 s31 s32=>evLP E_z18 n (sub C_z18 [0,0]) (qjZ V x0 x1 x2 x3 x4) (qnv V xv s29 s30 s31 s32)) from by
  funext xv s29 s30 s31 s32
  refine Eq.trans ?_ ((qqB V) (qjZ V x0 x1 x2 x3 x4) n xv s29 s30 s31 s32).symm
  rw [show (fun xv s29 s30 s31 s32=>(qjZ V x0 x1 x2 x3 x4) (.exit 0) (qbP V xv s29 s30 s31 s32))=((qeN V) n) from by
   funext xv s29 s30 s31 s32
   exact (qlp V) x0 x1 x2 x3 x4 n xv s29 s30 s31 s32]
  all_goals kernel_rfl]
 kernel_rfl
theorem qnw:qts Gc Tryd.prog 18 s_z18:=by
 refine qhY qbe (E:=E_z18) (fn:=Tryd.f18) (c:=C_z18) (qD rfl qgc) (fun w S hg=>⟨⟨(qb (qqA w S hg) qd),fun f sp h=>qdr f sp h w S⟩,qby w S hg,(fun _ _ h=>by cases h),(fun f sp h=>qiM f sp h),(fun f it h=>qiN f it h),(fun t kt vt h=>qdX t kt vt h)⟩) follows Tryd.func18 (by kernel_rfl) (by kernel_rfl) (by kernel_rfl) ?_
 intro avs r h
 unfold s_z18 at h
 split at h
 ·rename_i s V x _ _ _ _
  simp only [Prod.mk.injEq] at h
  obtain ⟨hp,rfl⟩:=h
  obtain ⟨n,hn⟩:=quh ⟨s,V⟩ _ _ _ _ _ hp
  exact ⟨n,(qzp ⟨s,V⟩ n _ _ _ _ _).trans hn⟩
 ·cases h
theorem qqC:qwV Gc Tryd.prog 18 qxh:=qkD qnw (enters_of Tryd.func18 (by kernel_rfl) rfl) (fun s V x x' y h=>by
 obtain ⟨h1,h2⟩:=Prod.mk.inj h
 subst h2
 refine ⟨_,_,Prod.ext h1 rfl⟩)
theorem qqD:qyl Gc Tryd.prog 11 s_z11:=fun w S hg vals avs s V x h hS ha=>by
 unfold s_z11 at h
 split at h
 ·cases h
  exact qop hS ha
 ·cases h
def E_z5:EnvP:=⟨⟨tiOf tis,fnsOf [(10,s_z10),(12,s_z12)],cnsOf [],[],39,(fun x=>if x=2000007 then some [8,9,12] else none),(fun x=>if x=0 then some [8,9,12] else if x=1 then some [1047,1048,1051] else none),some [8,9,1047,1048,1051]⟩,(fun x=>if x=8 then some (.leaf (.sl (.sl (.int .i32)))) else if x=9 then some (.leaf (.int .i64)) else if x=12 then some (.osl 23 (.sl (.int .i32))) else if x=33 then some (.osl 23 (.sl (.int .i32))) else if x=37 then some (.osl 23 (.sl (.int .i32))) else none),fun _=>none,fun _=>[],fun _=>none,(fun x=>if x=11 then some s_z11 else none),(fun x=>if x=18 then some qxh else none),fun _=>none⟩
def C_z5:Code:=cO Tryd.f5
def R_z5:Array ResultVar:=Tryd.f5.results
theorem z5_ev (n:Nat) (charset0:Int) (o0:Lab) (code1:Int) (o1:Lab) (t2:List Int) (o2:Lab) (first3:Int) (o3:Lab):evFnP E_z5 n C_z5 R_z5 [.dat (.int .i64) charset0 o0,.dat (.int .i64) code1 o1,.dat (.sl (.int .i32)) t2 o2,.dat (.int .i64) first3 o3]=z5_sh n charset0 code1 t2 first3:=by
 kernel_rfl
theorem qnx:qg Gc Tryd.prog 5 s_z5:=by
 refine qY qbe (E:=E_z5) (fn:=Tryd.f5) (c:=C_z5) (qD rfl qgc) (fun w S hg=>⟨⟨(qb (qjX w S hg) (qb (qpB w S hg) qd)),fun f sp h=>qdr f sp h w S⟩,qby w S hg,(fun _ _ h=>by cases h),(fun f sp h=>(qsX (qqD w S hg) qiM) f sp h),(fun f it h=>(qsY (qqC w S hg) qiN) f it h),(fun t kt vt h=>qdX t kt vt h)⟩) follows Tryd.func5 (by kernel_rfl) (by kernel_rfl) (by kernel_rfl) ?_
 intro avs r h
 unfold s_z5 at h
 split at h
 ·obtain ⟨hp,rfl⟩:=Prod.mk.inj h
  obtain ⟨n,hn⟩:=qxm _ _ _ _ hp
  exact ⟨n,_,(z5_ev n _ _ _ _ _ _ _ _).trans hn,.inl rfl⟩
 ·cases h
def E_z30:EnvP:=eQ [(47,s_z47)] 19 (some [2]) (fun x=>if x=3 then some [0,3,5] else none) (fun x=>if x=0 then some [3] else if x=1 then some [0,3,5] else none) nP
def C_z30:Code:=cO Tryd.f30
def R_z30:Array ResultVar:=Tryd.f30.results
noncomputable def qhk (K:Ex→Fr→Option AV):=fun s3=>K (.exit 0) (frOf [(3,(.dat (.int .i64) s3 none))])
def qka (n:Nat):Ex→Fr→Option AV:=qN 0 (E_z30.cutb 0) (kSeq (evCP E_z30 (evLP E_z30 n) (sub C_z30 [1,1,1])) (kFnP E_z30 R_z30))
def qny (c0:Int) (s3:Int) (s5:Int):Fr:=frOf [(0,(.dat (.int .i32) c0 none)),(3,(.dat (.int .i64) s3 none)),(5,(.dat (.int .i64) s5 none))]
theorem qqE (K:Ex→Fr→Option AV):∀ (n:Nat) (c0:Int) (s3:Int) (s5:Int),evLP E_z30 n (sub C_z30 [1,1,0,1,0,0]) K (qny c0 s3 s5)=qgk (qhk K) n c0 s3 s5:=by
 intro n
 induction n with
 | zero=>intros; rfl
 | succ n IH =>
 intro c0 s3 s5
 have ih:(fun c0 s3 s5=>evLP E_z30 n (sub C_z30 [1,1,0,1,0,0]) K (qny c0 s3 s5))=qgk (qhk K) n:=by
  funext c0 s3 s5
  exact IH c0 s3 s5
 show _=qdn (qhk K) (qgk (qhk K) n) n c0 s3 s5
 rw [← ih]
 kernel_rfl
theorem qlq (n:Nat) (s3:Int):(qka n) (.exit 0) (frOf [(3,(.dat (.int .i64) s3 none))])=qca n s3:=by
 kernel_rfl
theorem qzq (n:Nat) (c0:Int) (o0:Lab):evFnP E_z30 n C_z30 R_z30 [.dat (.int .i32) c0 o0]=qrz n c0:=by
 unfold qrz
 rw [show qgk (qca n) n=(fun c0 s3 s5=>evLP E_z30 n (sub C_z30 [1,1,0,1,0,0]) (qka n) (qny c0 s3 s5)) from by
  funext c0 s3 s5
  refine Eq.trans ?_ (qqE (qka n) n c0 s3 s5).symm
  rw [show (qhk (qka n))=(qca n) from by
   funext s3
   exact qlq n s3]
  all_goals kernel_rfl]
 kernel_rfl
theorem qqF:qg Gc Tryd.prog 30 s_z30:=by
 refine sQ (E:=E_z30) (c:=C_z30) rfl (fun w S hg=>(qb (qjC w S hg) qd)) Tryd.func30 ?_
 intro avs r h
 unfold s_z30 at h
 split at h <;> cases h
 obtain ⟨n,hn⟩:=quf _
 exact ⟨n,_,(qzq n _ _).trans hn,.inl rfl⟩
def E_z48:EnvP:=eQ [(67,s_z67)] 8 (some [2]) nC nC nP
def C_z48:Code:=cO Tryd.f48
def R_z48:Array ResultVar:=Tryd.f48.results
theorem qzr (n:Nat) (x0:Int) (o0:Lab):evFnP E_z48 n C_z48 R_z48 [.dat (.int .u64) x0 o0]=quN n x0:=by
 kernel_rfl
theorem qqG:qg Gc Tryd.prog 48 s_z48:=by
 refine sQ (E:=E_z48) (c:=C_z48) rfl (fun w S hg=>(qb (qpz w S hg) qd)) Tryd.func48 ?_
 intro avs r h
 unfold s_z48 at h
 split at h
 ·obtain ⟨hp,rfl⟩:=Prod.mk.inj h
  obtain ⟨n,hn⟩:=qub _ hp
  exact ⟨n,_,(qzr n _ _).trans hn,.inl rfl⟩
 ·cases h
def E_z31:EnvP:=eQ [(48,s_z48)] 8 (some [2]) nC nC nP
def C_z31:Code:=cO Tryd.f31
def R_z31:Array ResultVar:=Tryd.f31.results
theorem qzs (n:Nat) (sets0:Int) (o0:Lab):evFnP E_z31 n C_z31 R_z31 [.dat (.int .i64) sets0 o0]=quO n sets0:=by
 kernel_rfl
theorem qqH:qg Gc Tryd.prog 31 s_z31:=by
 refine sQ (E:=E_z31) (c:=C_z31) rfl (fun w S hg=>(qb (qqG w S hg) qd)) Tryd.func31 ?_
 intro avs r h
 unfold s_z31 at h
 split at h
 ·obtain ⟨hp,rfl⟩:=Prod.mk.inj h
  obtain ⟨n,hn⟩:=quc _ hp
  exact ⟨n,_,(qzs n _ _).trans hn,.inl rfl⟩
 ·cases h
def E_z21:EnvP:=eQ [(30,s_z30),(31,s_z31)] 22 (some [2,3]) (fun x=>if x=3 then some [4,7,8,9] else none) (fun x=>if x=0 then some [4] else if x=1 then some [4,7,8,9] else none) nP
def C_z21:Code:=cO Tryd.f21
def R_z21:Array ResultVar:=Tryd.f21.results
noncomputable def qhl (K:Ex→Fr→Option AV):=fun all4=>K (.exit 0) (frOf [(4,(.dat (.int .i64) all4 none))])
def qkb (n:Nat):Ex→Fr→Option AV:=qN 0 (E_z21.cutb 0) (kSeq (evCP E_z21 (evLP E_z21 n) (sub C_z21 [1,1,1])) (kFnP E_z21 R_z21))
def qnz (all4:Int) (s7:List Int) (s8:Int) (s9:Int):Fr:=frOf [(4,(.dat (.int .i64) all4 none)),(7,(.dat (.sl (.int .i32)) s7 none)),(8,(.dat (.int .i64) s8 none)),(9,(.dat (.int .i64) s9 none))]
theorem qqI (K:Ex→Fr→Option AV):∀ (n:Nat) (all4:Int) (s7:List Int) (s8:Int) (s9:Int),evLP E_z21 n (sub C_z21 [1,1,0,1,0,0]) K (qnz all4 s7 s8 s9)=qiD (qhl K) n all4 s7 s8 s9:=by
 intro n
 induction n with
 | zero=>intros; rfl
 | succ n IH =>
 intro all4 s7 s8 s9
 have ih:(fun all4 s7 s8 s9=>evLP E_z21 n (sub C_z21 [1,1,0,1,0,0]) K (qnz all4 s7 s8 s9))=qiD (qhl K) n:=by
  funext all4 s7 s8 s9
  exact IH all4 s7 s8 s9
 show _=qdo (qhl K) (qiD (qhl K) n) n all4 s7 s8 s9
 rw [← ih]
 kernel_rfl
theorem qlr (n:Nat) (all4:Int):(qkb n) (.exit 0) (frOf [(4,(.dat (.int .i64) all4 none))])=qcb n all4:=by
 kernel_rfl
theorem qzt (n:Nat) (t0:List Int) (o0:Lab):evFnP E_z21 n C_z21 R_z21 [.dat (.sl (.int .i32)) t0 o0]=qrA n t0:=by
 unfold qrA
 rw [show qiD (qcb n) n=(fun all4 s7 s8 s9=>evLP E_z21 n (sub C_z21 [1,1,0,1,0,0]) (qkb n) (qnz all4 s7 s8 s9)) from by
  funext all4 s7 s8 s9
  refine Eq.trans ?_ (qqI (qkb n) n all4 s7 s8 s9).symm
  rw [show (qhl (qkb n))=(qcb n) from by
   funext all4
   exact qlr n all4]
  all_goals kernel_rfl]
 kernel_rfl
theorem qqJ:qg Gc Tryd.prog 21 s_z21:=by
 refine sQ (E:=E_z21) (c:=C_z21) rfl (fun w S hg=>(qb (qqF w S hg) (qb (qqH w S hg) qd))) Tryd.func21 ?_
 intro avs r h
 unfold s_z21 at h
 split at h
 ·obtain ⟨hp,rfl⟩:=Prod.mk.inj h
  obtain ⟨n,hn⟩:=qug _ hp
  exact ⟨n,_,(qzt n _ _).trans hn,.inl rfl⟩
 ·cases h
end
end Go.Av
