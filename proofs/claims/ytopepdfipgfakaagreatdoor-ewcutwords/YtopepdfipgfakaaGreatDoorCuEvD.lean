import Derived.Test.YtopepdfipgfakaaGreatDoorCuEvC
import Derived.Test.YtopepdfipgfakaaGreatDoorCuC
import Derived.Test.YtopepdfipgfakaaGreatDoorProg
import Derived.KernelRfl
namespace Go.Av
set_option linter.unusedSimpArgs false
noncomputable section
open Go.Proofs
set_option maxRecDepth 100000
set_option linter.unusedVariables false
def qoo:EnvP:=eQ [(87,s_z87)] 18 (some [4,5]) nC (fun x=>if x=0 then some [] else none) nP
def qop:Code:=cO Tryz.f154
def qys:Array ResultVar:=Tryz.f154.results
theorem qub (n:Nat) (s1:List UInt8) (o0:Lab):evFnP qoo n qop qys [.iface 178 (.dat .unit () none),.dat (.sl .byte) s1 o0]=qkW n s1:=by
 kernel_rfl
def qoq:EnvP:=eQ [(83,s_z83)] 18 (some [4,5]) nC (fun x=>if x=0 then some [] else none) nP
def qor:Code:=cO Tryz.f154
def qyt:Array ResultVar:=Tryz.f154.results
theorem quc (n:Nat) (s1:List UInt8) (o0:Lab):evFnP qoq n qor qyt [.iface 179 (.dat .unit () none),.dat (.sl .byte) s1 o0]=qgw n s1:=by
 kernel_rfl
def qos:EnvP:=eQ [] 18 (some [4,5]) nC (fun x=>if x=0 then some [] else none) nP
def qot:Code:=cO Tryz.f154
def qyu:Array ResultVar:=Tryz.f154.results
theorem qud (n:Nat) (s1:List UInt8) (o0:Lab):evFnP qos n qot qyu [.nilIface,.dat (.sl .byte) s1 o0]=qkX n s1:=by
 kernel_rfl
theorem que:qe Gc Tryz.prog 154 s_z154:=fun w S hg=>by
 have h0:qe Gc Tryz.prog 154 s_z154_v0:=by
  refine qM qaP (E:=qoo) (fn:=Tryz.f154) (c:=qop) (qw rfl qgZ) (fun w S hg=>⟨⟨(qb (qyr w S hg) qc),fun f sp h=>qcL f sp h w S⟩,qbb w S hg,(fun _ _ h=>by cases h),(fun _ _ h=>by cases h),(fun _ _ h=>by cases h),(fun t kt vt h=>qex t kt vt h)⟩) follows Tryz.func154 (by kernel_rfl) (by kernel_rfl) (by kernel_rfl) ?_
  intro avs r h
  unfold s_z154_v0 at h
  split at h
  ·simp only [Prod.mk.injEq,true_and] at h
   subst h
   obtain ⟨n,hn⟩:=qnl _
   exact ⟨n,_,(qub n _ _).trans hn,.inl rfl⟩
  ·cases h
 have h1:qe Gc Tryz.prog 154 s_z154_v1:=by
  refine qM qaP (E:=qoq) (fn:=Tryz.f154) (c:=qor) (qw rfl qgZ) (fun w S hg=>⟨⟨(qb (qon w S hg) qc),fun f sp h=>qcL f sp h w S⟩,qbb w S hg,(fun _ _ h=>by cases h),(fun _ _ h=>by cases h),(fun _ _ h=>by cases h),(fun t kt vt h=>qex t kt vt h)⟩) follows Tryz.func154 (by kernel_rfl) (by kernel_rfl) (by kernel_rfl) ?_
  intro avs r h
  unfold s_z154_v1 at h
  split at h
  ·simp only [Prod.mk.injEq] at h
   obtain ⟨hp,rfl⟩:=h
   obtain ⟨n,hn⟩:=qnm _ hp
   exact ⟨n,_,(quc n _ _).trans hn,.inl rfl⟩
  ·cases h
 have h2:qe Gc Tryz.prog 154 s_z154_v2:=by
  refine qM qaP (E:=qos) (fn:=Tryz.f154) (c:=qot) (qw rfl qgZ) (fun w S hg=>⟨⟨qc,fun f sp h=>qcL f sp h w S⟩,qbb w S hg,(fun _ _ h=>by cases h),(fun _ _ h=>by cases h),(fun _ _ h=>by cases h),(fun t kt vt h=>qex t kt vt h)⟩) follows Tryz.func154 (by kernel_rfl) (by kernel_rfl) (by kernel_rfl) ?_
  intro avs r h
  unfold s_z154_v2 at h
  split at h
  ·simp only [Prod.mk.injEq,true_and] at h
   subst h
   obtain ⟨n,hn⟩:=qnn _
   exact ⟨n,_,(qud n _ _).trans hn,.inl rfl⟩
  ·cases h
 intro vals avs r h hS ha
 unfold s_z154 at h
 split at h
 ·exact h0 w S hg vals _ r (by simp only [Prod.mk.injEq] at h; exact congrArg _ h.2) hS ha
 ·exact h1 w S hg vals _ r (by exact h) hS ha
 ·exact h2 w S hg vals _ r (by exact h) hS ha
 ·cases h
def qHt:EnvP:=eQ [] 3 (some [2]) nC nC nP
def qHu:Code:=cO Tryz.f194
def qKK:Array ResultVar:=Tryz.f194.results
theorem qHv (n:Nat) (x0:Unit) (o0:Lab):evFnP qHt n qHu qKK [.dat .unit x0 o0]=qBP n x0:=by
 kernel_rfl
theorem quf:qe Gc Tryz.prog 194 s_z194:=by
 refine sQ (E:=qHt) (c:=qHu) rfl (fun w S hg=>qc) Tryz.func194 ?_
 intro avs r h
 unfold s_z194 at h
 split at h <;> cases h
 obtain ⟨n,hn⟩:=qAW _
 exact ⟨n,_,(qHv n _ _).trans hn,.inl rfl⟩
def qHw:EnvP:=eQ [] 3 (some [2]) nC nC nP
def qHx:Code:=cO Tryz.f195
def qKL:Array ResultVar:=Tryz.f195.results
theorem qHy (n:Nat) (x0:Unit) (o0:Lab):evFnP qHw n qHx qKL [.dat .unit x0 o0]=qBQ n x0:=by
 kernel_rfl
theorem qug:qe Gc Tryz.prog 195 s_z195:=by
 refine sQ (E:=qHw) (c:=qHx) rfl (fun w S hg=>qc) Tryz.func195 ?_
 intro avs r h
 unfold s_z195 at h
 split at h <;> cases h
 obtain ⟨n,hn⟩:=qAX _
 exact ⟨n,_,(qHy n _ _).trans hn,.inl rfl⟩
def qHz:EnvP:=eQ [(194,s_z194),(195,s_z195)] 16 (some [2]) nC (fun x=>if x=0 then some [] else none) nP
def qHA:Code:=cO Tryz.f155
def qKM:Array ResultVar:=Tryz.f155.results
theorem qHB (n:Nat) (code0:Int) (o0:Lab):evFnP qHz n qHA qKM [.dat (.int .i64) code0 o0]=qBR n code0:=by
 kernel_rfl
theorem quh:qe Gc Tryz.prog 155 s_z155:=by
 refine qfo qaP (E:=qHz) (fn:=Tryz.f155) (c:=qHA) (qw rfl qgZ) (fun w S hg=>⟨⟨(qb (quf w S hg) (qb (qug w S hg) qc)),fun f sp h=>qcL f sp h w S⟩,qbb w S hg,(fun _ _ h=>by cases h),(fun _ _ h=>by cases h),(fun _ _ h=>by cases h),(fun _ _ _ h=>by cases h)⟩) follows Tryz.func155 (by kernel_rfl) (by kernel_rfl) (by kernel_rfl) ?_
 intro avs r h
 unfold s_z155 at h
 split at h <;> cases h
 obtain ⟨n,r,hn,hp⟩:=qAV _
 exact ⟨n,r,(qHB n _ _).trans hn,hp⟩
def qHC:EnvP:=eQ [(120,s_z120),(154,s_z154),(155,s_z155)] 36 (some [6,7]) nC (fun x=>if x=0 then some [10] else none) nP
def qHD:Code:=cO Tryz.f112
def qKN:Array ResultVar:=Tryz.f112.results
theorem qHE (n:Nat) (charset0:Int) (o0:Lab) (code1:Int) (o1:Lab) (t2:List Int) (o2:Lab):evFnP qHC n qHD qKN [.dat (.int .i64) charset0 o0,.dat (.int .i64) code1 o1,.dat (.sl (.int .i32)) t2 o2]=qvX n charset0 code1 t2:=by
 kernel_rfl
theorem qga:qe Gc Tryz.prog 112 s_z112:=by
 refine sQ (E:=qHC) (c:=qHD) rfl (fun w S hg=>(qb (qkv w S hg) (qb (que w S hg) (qb (quh w S hg) qc)))) Tryz.func112 ?_
 intro avs r h
 unfold s_z112 at h
 split at h
 ·obtain ⟨hp,rfl⟩:=Prod.mk.inj h
  obtain ⟨n,hn⟩:=qAY _ _ _ hp
  exact ⟨n,_,(qHE n _ _ _ _ _ _).trans hn,.inl rfl⟩
 ·cases h
def E_z66:EnvP:=eQ [(17,s_z17),(112,s_z112)] 24 (some [6,7]) nC nC nP
def C_z66:Code:=cO Tryz.f66
def R_z66:Array ResultVar:=Tryz.f66.results
theorem qKO (n:Nat) (charset0:Int) (o0:Lab) (code1:Int) (o1:Lab) (t2:List Int) (o2:Lab):evFnP E_z66 n C_z66 R_z66 [.dat (.int .i64) charset0 o0,.dat (.int .i64) code1 o1,.dat (.sl (.int .i32)) t2 o2]=qDx n charset0 code1 t2:=by
 kernel_rfl
theorem qou:qe Gc Tryz.prog 66 s_z66:=by
 refine sQ (E:=E_z66) (c:=C_z66) rfl (fun w S hg=>(qb (qyp w S hg) (qb (qga w S hg) qc))) Tryz.func66 ?_
 intro avs r h
 unfold s_z66 at h
 split at h
 ·obtain ⟨hp,rfl⟩:=Prod.mk.inj h
  obtain ⟨n,hn⟩:=qEx _ _ _ hp
  exact ⟨n,_,(qKO n _ _ _ _ _ _).trans hn,.inl rfl⟩
 ·cases h
def qHF:EnvP:=eQ [(66,s_z66)] 31 (some [8]) nC nC nP
def qHG:Code:=cO Tryz.f156
def qKP:Array ResultVar:=Tryz.f156.results
theorem qHH (n:Nat) (charset0:Int) (o0:Lab) (code1:Int) (o1:Lab) (t2:List Int) (o2:Lab) (room3:Int) (o3:Lab):evFnP qHF n qHG qKP [.dat (.int .i64) charset0 o0,.dat (.int .i64) code1 o1,.dat (.sl (.int .i32)) t2 o2,.dat (.int .i64) room3 o3]=qvZ n charset0 code1 t2 room3:=by
 kernel_rfl
theorem qui:qe Gc Tryz.prog 156 s_z156:=by
 refine sQ (E:=qHF) (c:=qHG) rfl (fun w S hg=>(qb (qou w S hg) qc)) Tryz.func156 ?_
 intro avs r h
 unfold s_z156 at h
 split at h
 ·obtain ⟨hp,rfl⟩:=Prod.mk.inj h
  obtain ⟨n,hn⟩:=qBb _ _ _ _ hp
  exact ⟨n,_,(qHH n _ _ _ _ _ _ _ _).trans hn,.inl rfl⟩
 ·cases h
def qiM:EnvP:=eQ [(156,s_z156)] 27 (some [8]) (fun x=>if x=2 then some [0,1,2,3,9] else none) (fun x=>if x=0 then some [9] else if x=1 then some [0,1,2,3,9] else none) nP
def qrj:Code:=cO Tryz.f114
def qHI:Array ResultVar:=Tryz.f114.results
noncomputable def qgb (K:Ex→Fr→Option AV):=fun many9=>K (.exit 0) (frOf [(9,(.dat (.int .i64) many9 none))])
def qiN (n:Nat):Ex→Fr→Option AV:=qm 0 (qiM.cutb 0) (kSeq (evCP qiM (evLP qiM n) (sub qrj [1,1,1])) (kFnP qiM qHI))
def qmm (charset0:Int) (code1:Int) (t2:List Int) (room3:Int) (many9:Int):Fr:=frOf [(0,(.dat (.int .i64) charset0 none)),(1,(.dat (.int .i64) code1 none)),(2,(.dat (.sl (.int .i32)) t2 none)),(3,(.dat (.int .i64) room3 none)),(9,(.dat (.int .i64) many9 none))]
theorem quj (K:Ex→Fr→Option AV):∀ (n:Nat) (charset0:Int) (code1:Int) (t2:List Int) (room3:Int) (many9:Int),evLP qiM n (sub qrj [1,1,0,0,0]) K (qmm charset0 code1 t2 room3 many9)=qgx (qgb K) n charset0 code1 t2 room3 many9:=by
 intro n
 induction n with
 | zero=>intros; rfl
 | succ n IH =>
 intro charset0 code1 t2 room3 many9
 have ih:(fun charset0 code1 t2 room3 many9=>evLP qiM n (sub qrj [1,1,0,0,0]) K (qmm charset0 code1 t2 room3 many9))=qgx (qgb K) n:=by
  funext charset0 code1 t2 room3 many9
  exact IH charset0 code1 t2 room3 many9
 show _=qcc (qgb K) (qgx (qgb K) n) n charset0 code1 t2 room3 many9
 rw [← ih]
 kernel_rfl
theorem qmn (n:Nat) (many9:Int):(qiN n) (.exit 0) (frOf [(9,(.dat (.int .i64) many9 none))])=qdr n many9:=by
 kernel_rfl
theorem qHJ (n:Nat) (charset0:Int) (o0:Lab) (code1:Int) (o1:Lab) (t2:List Int) (o2:Lab) (room3:Int) (o3:Lab):evFnP qiM n qrj qHI [.dat (.int .i64) charset0 o0,.dat (.int .i64) code1 o1,.dat (.sl (.int .i32)) t2 o2,.dat (.int .i64) room3 o3]=qpy n charset0 code1 t2 room3:=by
 unfold qpy
 rw [show qgx (qdr n) n=(fun charset0 code1 t2 room3 many9=>evLP qiM n (sub qrj [1,1,0,0,0]) (qiN n) (qmm charset0 code1 t2 room3 many9)) from by
  funext charset0 code1 t2 room3 many9
  refine Eq.trans ?_ (quj (qiN n) n charset0 code1 t2 room3 many9).symm
  rw [show (qgb (qiN n))=(qdr n) from by
   funext many9
   exact qmn n many9]
  all_goals kernel_rfl]
 kernel_rfl
theorem quk:qe Gc Tryz.prog 114 s_z114:=by
 refine sQ (E:=qiM) (c:=qrj) rfl (fun w S hg=>(qb (qui w S hg) qc)) Tryz.func114 ?_
 intro avs r h
 unfold s_z114 at h
 split at h
 ·obtain ⟨hp,rfl⟩:=Prod.mk.inj h
  obtain ⟨n,hn⟩:=qBc _ _ _ _ hp
  exact ⟨n,_,(qHJ n _ _ _ _ _ _ _ _).trans hn,.inl rfl⟩
 ·cases h
def qmo:EnvP:=eQ [(114,s_z114)] 28 (some [28,29,30,31,32]) (fun x=>if x=0 then some [0,1,2,3,4,28,29,30,31,32] else none) (fun x=>if x=0 then some [28,29,30,31,32] else if x=1 then some [0,1,2,3,4,28,29,30,31,32] else none) nP
def qul:Code:=cO Tryz.f113
def qHK:Array ResultVar:=Tryz.f113.results
def qiO (V:Sigma Inv) (x0:Den V.1) (x1:List Int) (x2:Int) (x3:Int) (x4:Int):Ex→Fr→Option AV:=qm 0 (qmo.cutb 0) (kFnM qmo qHK [.abs V.1 V.2 x0,.pbox (.leaf (.sl (.int .i32))) x1 none,.pbox (.leaf (.int .i64)) x2 none,.pbox (.leaf (.int .i64)) x3 none,.pbox (.leaf (.int .i64)) x4 none])
def qmp (V:Sigma Inv) (xv:Den V.1) (s29:List Int) (s30:Int) (s31:Int) (s32:Int):Fr:=frOf [(0,(.padr 28 [])),(1,(.padr 29 [])),(2,(.padr 30 [])),(3,(.padr 31 [])),(4,(.padr 32 [])),(28,(.abs V.1 V.2 xv)),(29,(.pbox (.leaf (.sl (.int .i32))) s29 none)),(30,(.pbox (.leaf (.int .i64)) s30 none)),(31,(.pbox (.leaf (.int .i64)) s31 none)),(32,(.pbox (.leaf (.int .i64)) s32 none))]
def qaN (V:Sigma Inv) (xv:Den V.1) (s29:List Int) (s30:Int) (s31:Int) (s32:Int):Fr:=frOf [(28,(.abs V.1 V.2 xv)),(29,(.pbox (.leaf (.sl (.int .i32))) s29 none)),(30,(.pbox (.leaf (.int .i64)) s30 none)),(31,(.pbox (.leaf (.int .i64)) s31 none)),(32,(.pbox (.leaf (.int .i64)) s32 none))]
theorem qum (V:Sigma Inv) (K:Ex→Fr→Option AV):∀ (n:Nat) (xv:Den V.1) (s29:List Int) (s30:Int) (s31:Int) (s32:Int),evLP qmo n (sub qul [0,0]) K (qmp V xv s29 s30 s31 s32)=(qgy V) (fun xv s29 s30 s31 s32=>K .ret (qaN V xv s29 s30 s31 s32)) (fun xv s29 s30 s31 s32=>K (.exit 0) (qaN V xv s29 s30 s31 s32)) n xv s29 s30 s31 s32:=by
 intro n
 induction n with
 | zero=>intros; rfl
 | succ n IH =>
 intro xv s29 s30 s31 s32
 have ih:(fun xv s29 s30 s31 s32=>evLP qmo n (sub qul [0,0]) K (qmp V xv s29 s30 s31 s32))=(qgy V) (fun xv s29 s30 s31 s32=>K .ret (qaN V xv s29 s30 s31 s32)) (fun xv s29 s30 s31 s32=>K (.exit 0) (qaN V xv s29 s30 s31 s32)) n:=by
  funext xv s29 s30 s31 s32
  exact IH xv s29 s30 s31 s32
 show _=(qfe V) (fun xv s29 s30 s31 s32=>K .ret (qaN V xv s29 s30 s31 s32)) (fun xv s29 s30 s31 s32=>K (.exit 0) (qaN V xv s29 s30 s31 s32)) ((qgy V) (fun xv s29 s30 s31 s32=>K .ret (qaN V xv s29 s30 s31 s32)) (fun xv s29 s30 s31 s32=>K (.exit 0) (qaN V xv s29 s30 s31 s32)) n) n xv s29 s30 s31 s32
 rw [← ih]
 kernel_rfl
theorem qmq (V:Sigma Inv) (x0:Den V.1) (x1:List Int) (x2:Int) (x3:Int) (x4:Int) (n:Nat) (xv:Den V.1) (s29:List Int) (s30:Int) (s31:Int) (s32:Int):(qiO V x0 x1 x2 x3 x4) (.exit 0) (qaN V xv s29 s30 s31 s32)=(qds V) n xv s29 s30 s31 s32:=by
 kernel_rfl
theorem qHL (V:Sigma Inv) (n:Nat) (x0:Den V.1) (x1:List Int) (x2:Int) (x3:Int) (x4:Int):evFnM qmo n qul qHK [.abs V.1 V.2 x0,.pbox (.leaf (.sl (.int .i32))) x1 none,.pbox (.leaf (.int .i64)) x2 none,.pbox (.leaf (.int .i64)) x3 none,.pbox (.leaf (.int .i64)) x4 none]=(qwb V) n x0 x1 x2 x3 x4:=by
 unfold qwb
 rw [show (qgy V) (qee V) ((qds V) n) n=(fun xv s29 s30 s31 s32=>evLP qmo n (sub qul [0,0]) (qiO V x0 x1 x2 x3 x4) (qmp V xv s29 s30 s31 s32)) from by
  funext xv s29 s30 s31 s32
  refine Eq.trans ?_ ((qum V) (qiO V x0 x1 x2 x3 x4) n xv s29 s30 s31 s32).symm
  rw [show (fun xv s29 s30 s31 s32=>(qiO V x0 x1 x2 x3 x4) (.exit 0) (qaN V xv s29 s30 s31 s32))=((qds V) n) from by
   funext xv s29 s30 s31 s32
   exact (qmq V) x0 x1 x2 x3 x4 n xv s29 s30 s31 s32]
  all_goals kernel_rfl]
 kernel_rfl
theorem qrk:qCE Gc Tryz.prog 113 s_z113:=by
 refine qlx qaP (E:=qmo) (fn:=Tryz.f113) (c:=qul) (qw rfl qgZ) (fun w S hg=>⟨⟨(qb (quk w S hg) qc),fun f sp h=>qcL f sp h w S⟩,qbb w S hg,(fun _ _ h=>by cases h),(fun f sp h=>qnt f sp h),(fun f it h=>qnu f it h),(fun t kt vt h=>qex t kt vt h)⟩) follows Tryz.func113 (by kernel_rfl) (by kernel_rfl) (by kernel_rfl) ?_
 intro avs r h
 unfold s_z113 at h
 split at h
 ·rename_i s V x _ _ _ _
  simp only [Prod.mk.injEq] at h
  obtain ⟨hp,rfl⟩:=h
  obtain ⟨n,hn⟩:=qzu ⟨s,V⟩ _ _ _ _ _ hp
  exact ⟨n,(qHL ⟨s,V⟩ n _ _ _ _ _).trans hn⟩
 ·cases h
theorem qun:qFl Gc Tryz.prog 113 qBA:=qqs qrk (enters_of Tryz.func113 (by kernel_rfl) rfl) (fun s V x x' y h=>by
 obtain ⟨h1,h2⟩:=Prod.mk.inj h
 subst h2
 refine ⟨_,_,Prod.ext h1 rfl⟩)
theorem qyv:qJS Gc Tryz.prog 67 s_z67:=fun w S hg vals avs s V x h hS ha=>by
 unfold s_z67 at h
 split at h
 ·cases h
  exact qxb hS ha
 ·cases h
def E_z28:EnvP:=⟨⟨tiOf tis,fnsOf [(66,s_z66),(68,s_z68)],cnsOf [],[],39,(fun x=>if x=2000007 then some [8,9,12] else none),(fun x=>if x=0 then some [8,9,12] else if x=1 then some [1047,1048,1051] else none),some [8,9,1047,1048,1051]⟩,(fun x=>if x=8 then some (.leaf (.sl (.sl (.int .i32)))) else if x=9 then some (.leaf (.int .i64)) else if x=12 then some (.osl 40 (.sl (.int .i32))) else if x=33 then some (.osl 40 (.sl (.int .i32))) else if x=37 then some (.osl 40 (.sl (.int .i32))) else none),fun _=>none,fun _=>[],fun _=>none,(fun x=>if x=67 then some s_z67 else none),(fun x=>if x=113 then some qBA else none),fun _=>none⟩
def C_z28:Code:=cO Tryz.f28
def R_z28:Array ResultVar:=Tryz.f28.results
theorem qKQ (n:Nat) (charset0:Int) (o0:Lab) (code1:Int) (o1:Lab) (t2:List Int) (o2:Lab) (first3:Int) (o3:Lab):evFnP E_z28 n C_z28 R_z28 [.dat (.int .i64) charset0 o0,.dat (.int .i64) code1 o1,.dat (.sl (.int .i32)) t2 o2,.dat (.int .i64) first3 o3]=qDy n charset0 code1 t2 first3:=by
 kernel_rfl
theorem qyw:qe Gc Tryz.prog 28 s_z28:=by
 refine qM qaP (E:=E_z28) (fn:=Tryz.f28) (c:=C_z28) (qw rfl qgZ) (fun w S hg=>⟨⟨(qb (qou w S hg) (qb (qyl w S hg) qc)),fun f sp h=>qcL f sp h w S⟩,qbb w S hg,(fun _ _ h=>by cases h),(fun f sp h=>(qCj (qyv w S hg) qnt) f sp h),(fun f it h=>(qCk (qun w S hg) qnu) f it h),(fun t kt vt h=>qex t kt vt h)⟩) follows Tryz.func28 (by kernel_rfl) (by kernel_rfl) (by kernel_rfl) ?_
 intro avs r h
 unfold s_z28 at h
 split at h
 ·obtain ⟨hp,rfl⟩:=Prod.mk.inj h
  obtain ⟨n,hn⟩:=qDd _ _ _ _ hp
  exact ⟨n,_,(qKQ n _ _ _ _ _ _ _ _).trans hn,.inl rfl⟩
 ·cases h
def qiP:EnvP:=eQ [(157,s_z157)] 19 (some [2]) (fun x=>if x=3 then some [0,3,5] else none) (fun x=>if x=0 then some [3] else if x=1 then some [0,3,5] else none) nP
def qrl:Code:=cO Tryz.f116
def qHM:Array ResultVar:=Tryz.f116.results
noncomputable def qgc (K:Ex→Fr→Option AV):=fun s3=>K (.exit 0) (frOf [(3,(.dat (.int .i64) s3 none))])
def qiQ (n:Nat):Ex→Fr→Option AV:=qm 0 (qiP.cutb 0) (kSeq (evCP qiP (evLP qiP n) (sub qrl [1,1,1])) (kFnP qiP qHM))
def qmr (c0:Int) (s3:Int) (s5:Int):Fr:=frOf [(0,(.dat (.int .i32) c0 none)),(3,(.dat (.int .i64) s3 none)),(5,(.dat (.int .i64) s5 none))]
theorem qup (K:Ex→Fr→Option AV):∀ (n:Nat) (c0:Int) (s3:Int) (s5:Int),evLP qiP n (sub qrl [1,1,0,1,0,0]) K (qmr c0 s3 s5)=qdt (qgc K) n c0 s3 s5:=by
 intro n
 induction n with
 | zero=>intros; rfl
 | succ n IH =>
 intro c0 s3 s5
 have ih:(fun c0 s3 s5=>evLP qiP n (sub qrl [1,1,0,1,0,0]) K (qmr c0 s3 s5))=qdt (qgc K) n:=by
  funext c0 s3 s5
  exact IH c0 s3 s5
 show _=qcd (qgc K) (qdt (qgc K) n) n c0 s3 s5
 rw [← ih]
 kernel_rfl
theorem qms (n:Nat) (s3:Int):(qiQ n) (.exit 0) (frOf [(3,(.dat (.int .i64) s3 none))])=qbd n s3:=by
 kernel_rfl
theorem qHN (n:Nat) (c0:Int) (o0:Lab):evFnP qiP n qrl qHM [.dat (.int .i32) c0 o0]=qpA n c0:=by
 unfold qpA
 rw [show qdt (qbd n) n=(fun c0 s3 s5=>evLP qiP n (sub qrl [1,1,0,1,0,0]) (qiQ n) (qmr c0 s3 s5)) from by
  funext c0 s3 s5
  refine Eq.trans ?_ (qup (qiQ n) n c0 s3 s5).symm
  rw [show (qgc (qiQ n))=(qbd n) from by
   funext s3
   exact qms n s3]
  all_goals kernel_rfl]
 kernel_rfl
theorem quq:qe Gc Tryz.prog 116 s_z116:=by
 refine sQ (E:=qiP) (c:=qrl) rfl (fun w S hg=>(qb (qku w S hg) qc)) Tryz.func116 ?_
 intro avs r h
 unfold s_z116 at h
 split at h <;> cases h
 obtain ⟨n,hn⟩:=qzt _
 exact ⟨n,_,(qHN n _ _).trans hn,.inl rfl⟩
def qHO:EnvP:=eQ [(201,s_z201)] 8 (some [2]) nC nC nP
def qHP:Code:=cO Tryz.f158
def qKR:Array ResultVar:=Tryz.f158.results
theorem qHQ (n:Nat) (x0:Int) (o0:Lab):evFnP qHO n qHP qKR [.dat (.int .u64) x0 o0]=qwd n x0:=by
 kernel_rfl
theorem qur:qe Gc Tryz.prog 158 s_z158:=by
 refine sQ (E:=qHO) (c:=qHP) rfl (fun w S hg=>(qb (qtn w S hg) qc)) Tryz.func158 ?_
 intro avs r h
 unfold s_z158 at h
 split at h
 ·obtain ⟨hp,rfl⟩:=Prod.mk.inj h
  obtain ⟨n,hn⟩:=qzp _ hp
  exact ⟨n,_,(qHQ n _ _).trans hn,.inl rfl⟩
 ·cases h
def qHR:EnvP:=eQ [(158,s_z158)] 8 (some [2]) nC nC nP
def qHS:Code:=cO Tryz.f117
def qKS:Array ResultVar:=Tryz.f117.results
theorem qHT (n:Nat) (sets0:Int) (o0:Lab):evFnP qHR n qHS qKS [.dat (.int .i64) sets0 o0]=qwe n sets0:=by
 kernel_rfl
theorem qus:qe Gc Tryz.prog 117 s_z117:=by
 refine sQ (E:=qHR) (c:=qHS) rfl (fun w S hg=>(qb (qur w S hg) qc)) Tryz.func117 ?_
 intro avs r h
 unfold s_z117 at h
 split at h
 ·obtain ⟨hp,rfl⟩:=Prod.mk.inj h
  obtain ⟨n,hn⟩:=qzq _ hp
  exact ⟨n,_,(qHT n _ _).trans hn,.inl rfl⟩
 ·cases h
end
end Go.Av
